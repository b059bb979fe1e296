-- laid by hp.py (a program of this work over the kit's print), with contracts by hand for what the print does not take
import Derived.Test.YtllodpaghkohbaaPrint0
import Derived.Test.YtllodpaghkohbaaPrintHx0
namespace Go.Proofs.Ytllodpaghkohbaa.Print
open Go.RowKit Go.Proofs.YtllodpaghkohbaaW.PrintWords Go.Proofs.YtllodpaghkohbaaW.PrintLast Go.Proofs.YtllodpaghkohbaaW.PrintMore
attribute [local go_sem] max2_int min2_int max_two min_two max_three min_three max_four min_four   -- for this text's walks alone
set_option linter.unusedVariables false
set_option linter.unusedSimpArgs false

/-! ### spec_edge: function 57 -/
def spec_edge.l0 : Nat → List Bool → List Bool → Int → Int → Option (List Bool)
 | 0, _, _, _, _ => none
 | k + 1, x0, x3, x4, x5 => if x5 < (x0.length : Int) then (if x4 = 0 then (none) else (if (Int.tmod x5 x4) > 0 then (if (Int.tmod x5 x4) < (wrap64 (x4 - 1)) then (if (wrap64 (Int.tdiv x5 x4)) > 0 then (if (wrap64 (Int.tdiv x5 x4)) < (wrap64 (x4 - 1)) then (if 0 ≤ (wrap64 (x5 - 1)) then (if (wrap64 (x5 - 1)) < (x0.length : Int) then (if rdOf false x0 (wrap64 (x5 - 1)) = true then (if 0 ≤ (wrap64 (x5 + 1)) then (if (wrap64 (x5 + 1)) < (x0.length : Int) then (if rdOf false x0 (wrap64 (x5 + 1)) = true then (if 0 ≤ (wrap64 (x5 - x4)) then (if (wrap64 (x5 - x4)) < (x0.length : Int) then (if rdOf false x0 (wrap64 (x5 - x4)) = true then (if 0 ≤ (wrap64 (x5 + x4)) then (if (wrap64 (x5 + x4)) < (x0.length : Int) then (if 0 ≤ x5 then (if rdOf false x0 x5 = true then (if x5 < (x3.length : Int) then (spec_edge.l0 k x0 (x3.set (x5 : Int).toNat (!(rdOf false x0 (wrap64 (x5 + x4))))) x4 (wrap64 (x5 + 1))) else (none)) else (if x5 < (x3.length : Int) then (spec_edge.l0 k x0 (x3.set (x5 : Int).toNat false) x4 (wrap64 (x5 + 1))) else (none))) else (none)) else (none)) else (none)) else (if 0 ≤ x5 then (if rdOf false x0 x5 = true then (if x5 < (x3.length : Int) then (spec_edge.l0 k x0 (x3.set (x5 : Int).toNat (!false)) x4 (wrap64 (x5 + 1))) else (none)) else (if x5 < (x3.length : Int) then (spec_edge.l0 k x0 (x3.set (x5 : Int).toNat false) x4 (wrap64 (x5 + 1))) else (none))) else (none))) else (none)) else (none)) else (if 0 ≤ x5 then (if rdOf false x0 x5 = true then (if x5 < (x3.length : Int) then (spec_edge.l0 k x0 (x3.set (x5 : Int).toNat (!false)) x4 (wrap64 (x5 + 1))) else (none)) else (if x5 < (x3.length : Int) then (spec_edge.l0 k x0 (x3.set (x5 : Int).toNat false) x4 (wrap64 (x5 + 1))) else (none))) else (none))) else (none)) else (none)) else (if 0 ≤ x5 then (if rdOf false x0 x5 = true then (if x5 < (x3.length : Int) then (spec_edge.l0 k x0 (x3.set (x5 : Int).toNat (!false)) x4 (wrap64 (x5 + 1))) else (none)) else (if x5 < (x3.length : Int) then (spec_edge.l0 k x0 (x3.set (x5 : Int).toNat false) x4 (wrap64 (x5 + 1))) else (none))) else (none))) else (none)) else (none)) else (if 0 ≤ x5 then (if rdOf false x0 x5 = true then (if x5 < (x3.length : Int) then (spec_edge.l0 k x0 (x3.set (x5 : Int).toNat (!false)) x4 (wrap64 (x5 + 1))) else (none)) else (if x5 < (x3.length : Int) then (spec_edge.l0 k x0 (x3.set (x5 : Int).toNat false) x4 (wrap64 (x5 + 1))) else (none))) else (none))) else (if 0 ≤ x5 then (if rdOf false x0 x5 = true then (if x5 < (x3.length : Int) then (spec_edge.l0 k x0 (x3.set (x5 : Int).toNat (!false)) x4 (wrap64 (x5 + 1))) else (none)) else (if x5 < (x3.length : Int) then (spec_edge.l0 k x0 (x3.set (x5 : Int).toNat false) x4 (wrap64 (x5 + 1))) else (none))) else (none))) else (if 0 ≤ x5 then (if rdOf false x0 x5 = true then (if x5 < (x3.length : Int) then (spec_edge.l0 k x0 (x3.set (x5 : Int).toNat (!false)) x4 (wrap64 (x5 + 1))) else (none)) else (if x5 < (x3.length : Int) then (spec_edge.l0 k x0 (x3.set (x5 : Int).toNat false) x4 (wrap64 (x5 + 1))) else (none))) else (none))) else (if 0 ≤ x5 then (if rdOf false x0 x5 = true then (if x5 < (x3.length : Int) then (spec_edge.l0 k x0 (x3.set (x5 : Int).toNat (!false)) x4 (wrap64 (x5 + 1))) else (none)) else (if x5 < (x3.length : Int) then (spec_edge.l0 k x0 (x3.set (x5 : Int).toNat false) x4 (wrap64 (x5 + 1))) else (none))) else (none)))) else (some x3)
def spec_edge.f (k : Nat) (l0 : List Bool) : Option (List Bool) := if 0 ≤ (l0.length : Int) then (if ((l0.length : Int) : Int).toNat ≤ 281474976710656 then (spec_edge.l0 k l0 (List.replicate ((l0.length : Int) : Int).toNat false) 16 0) else (none)) else (none)
theorem spec_edge.mono_l : ∀ k, (∀ y0 y1 y2 y3, LeO (spec_edge.l0 k y0 y1 y2 y3) (spec_edge.l0 (k + 1) y0 y1 y2 y3))
 | 0 => fun _ _ _ _ r h => by simp [spec_edge.l0] at h
 | k + 1 => by
  have ih0 := spec_edge.mono_l k
  intro y0 y1 y2 y3
  unfold spec_edge.l0
  repeat' first
  | (with_reducible exact ih0 _ _ _ _)
  | (with_reducible exact LeO.refl _)
  | (with_reducible exact LeO.none _)
  | (with_reducible refine LeO.ite ?_ ?_)
  | (with_reducible refine LeO.bind ?_ (fun _ => ?_))
  | exact ih0 _ _ _ _
  | exact LeO.none _
  | refine LeO.ite ?_ ?_
  | refine LeO.bind ?_ (fun _ => ?_)
theorem spec_edge.mono : ∀ a0 k, LeO (spec_edge.f k a0) (spec_edge.f (k + 1) a0) := by
 intro a0 k
 have ih0 := spec_edge.mono_l k
 unfold spec_edge.f
 repeat' first
   | (with_reducible exact ih0 _ _ _ _)
   | (with_reducible exact LeO.refl _)
   | (with_reducible exact LeO.none _)
   | (with_reducible refine LeO.ite ?_ ?_)
   | (with_reducible refine LeO.bind ?_ (fun _ => ?_))
   | exact ih0 _ _ _ _
   | exact LeO.none _
   | refine LeO.ite ?_ ?_
   | refine LeO.bind ?_ (fun _ => ?_)
set_option maxHeartbeats 8000000 in
set_option maxRecDepth 100000 in
theorem spec_edge.calls (k : Nat) (A0 : Option Addr) (c0 : Nat) (l0 : List Bool) (r : List Bool) (w : World) (hr0 : Kd.C Kd.bool w A0 l0.length l0) (hc0 : l0.length ≤ c0) (h : spec_edge.f k l0 = some r) :
  Calls Try.prog 57 #[.slice A0 l0.length c0] w fun e w' => ∃ v0_ : Value, e = .returned (v0_) ∧ Kd.R Kd.bool 4 w' w.heap.size (fun _ => True) v0_ r ∧ Below w.heap.size w w' := by
 have HR0 := Aside0.mk hr0
 have HC0 := Aside0.mk hc0
 clear hr0 hc0
 have HB := Aside0.mk (Below.refl w.heap.size w)
 have H : (if 0 ≤ (l0.length : Int) then (if ((l0.length : Int) : Int).toNat ≤ 281474976710656 then (spec_edge.l0 k l0 (List.replicate ((l0.length : Int) : Int).toNat false) 16 0) else (none)) else (none)) = some r := h
 clear h
 by_cases c2 : 0 ≤ (l0.length : Int)
 rotate_left
 ·
  rw [if_neg c2] at H
  exact absurd H (by simp)
 rw [if_pos c2] at H
 have c2b0 := eq_true c2
 have c2b1 : decide (0 ≤ (l0.length : Int)) = true := decide_eq_true c2
 clear c2
 by_cases c3 : ((l0.length : Int) : Int).toNat ≤ 281474976710656
 rotate_left
 ·
  rw [if_neg c3] at H
  exact absurd H (by simp)
 rw [if_pos c3] at H
 have c3b0 := eq_true c3
 have c3b1 : decide (((l0.length : Int) : Int).toNat ≤ 281474976710656) = true := decide_eq_true c3
 clear c3
 obtain ⟨y101, hy101⟩ : ∃ y_ : List Bool, y_ = (List.replicate ((l0.length : Int) : Int).toNat false) := ⟨_, rfl⟩
 replace H : (spec_edge.l0 k l0 y101 16 0) = some r := by first | (rw [hy101]; with_reducible exact H) | (have H2_ := (Option.bind_some _ _).symm.trans H; rw [hy101]; with_reducible exact H2_) | (have H2_ := (Option.bind_some _ _).symm.trans H; with_reducible exact H2_) | with_reducible exact H | (rw [hy101]; exact H) | exact H
 have Ny101 := Aside0.mk hy101
 clear hy101
 have H' := Aside0.mk H
 clear H
 go_enter Try.func57, Try.ntmps57
 go_wp2_with (first | ((with_reducible refine gate_dst (N := 11) rfl ?_); refine Kd.R_make Kd.bool _ 4 rfl (N := 11) rfl 32 _ _ rfl (l0.length : Int) rfl rfl Try.underlying32 (.bool false) 1 info4 rfl (by decide) (by omega) false (ok := fun _ => True) (okp := fun _ => True) rfl (fun _ hk => hk) trivial (of_decide_eq_true (by first | with_reducible assumption | assumption)) (Nat.le_trans (Nat.mul_le_mul_right _ (of_decide_eq_true (by first | with_reducible assumption | assumption) : (l0.length : Int).toNat ≤ 281474976710656)) (by omega)) (Below.refl _ _) (Nat.le_refl _) ?_; intro v102 w4 ho5 hb hg_ hnew_; clear hg_ hnew_; (first | rw [← Ny101.out] at ho5 | (simp only [Int.reduceToNat] at ho5; rw [← Ny101.out] at ho5)); have HO103 := am_ (Kd.R_lower ho5 (below_size (by repeat (first | (with_reducible first | exact HB.out | apply below_alloc | apply pw_below_drewN | apply below_drew1) | exact HB.out)))); replace HB := am_ (below_step (by repeat (first | (with_reducible first | exact HB.out | apply below_alloc | apply pw_below_drewN | apply below_drew1) | exact HB.out)) hb); clear hb ho5))
 go_loopg [5] k (fun kq v5 w' => ∃ (x3_1 : List Bool) (x5_1 : Int), v5 = .int .i64 x5_1 ∧ Aside0 (spec_edge.l0 kq l0 x3_1 16 x5_1 = some r) ∧ Aside0 (kq ≤ k) ∧ Aside0 (Kd.R Kd.bool 4 w' w.heap.size (fun _ => True) v102 x3_1) ∧ Aside0 (Below w.heap.size w w'))
 case atStart => exact ⟨(y101), (0), (by first | rfl | (simp; done) | (simp [*]; done)), H', ⟨Nat.le_refl _⟩, ⟨by exact HO103.out⟩, ⟨by repeat (first | (with_reducible first | exact HB.out | apply below_alloc | apply pw_below_drewN | apply below_drew1) | exact HB.out)⟩⟩
 case round =>
  clear H'
  try clear c2
  try clear c2b0
  try clear c2b1
  try clear p2
  try clear c3
  try clear c3b0
  try clear c3b1
  try clear c5
  obtain ⟨x3_1, x5_1, rfl, HA, HK1, HO_3, HB⟩ := hrel
  cases gk with
  | zero => exact absurd HA.out (by simp [spec_edge.l0])
  | succ k1 =>
   have H := HA.out
   clear HA
   simp only [spec_edge.l0, show wrap64 (16 - 1) = 15 from (by unfold wrap64; omega)] at H
   by_cases c6 : x5_1 < (l0.length : Int)
   rotate_left
   ·
    rw [if_neg c6] at H
    have c6b0 : decide (x5_1 < (l0.length : Int)) = false := decide_eq_false c6
    clear c6
    obtain rfl := Option.some.inj H
    go_wp2
    go_ret
    exact ⟨_, by first | rfl | (simp [errW_none, errW_some] <;> rfl) | (simp [*, errW_none, errW_some] <;> rfl), by exact HO_3.out, by repeat (first | (with_reducible first | exact HB.out | apply below_alloc | apply pw_below_drewN | apply below_drew1) | exact HB.out)⟩
   rw [if_pos c6] at H
   have c6b0 : decide (x5_1 < (l0.length : Int)) = true := decide_eq_true c6
   clear c6
   by_cases c7 : (16 : Int) = 0
   ·
    rw [if_pos c7] at H
    exact absurd H (by simp)
   rw [if_neg c7] at H
   have c7b0 : ((16 : Int) == 0) = false := beq_eq_false_iff_ne.mpr c7
   have c7b1 : ((16 : Int) != 0) = true := bne_iff_ne.mpr c7
   by_cases c8 : (Int.tmod x5_1 16) > 0
   rotate_left
   ·
    rw [if_neg c8] at H
    have c8b0 : decide (0 < (Int.tmod x5_1 16)) = false := decide_eq_false c8
    clear c8
    by_cases c107 : 0 ≤ x5_1
    rotate_left
    ·
     rw [if_neg c107] at H
     exact absurd H (by simp)
    rw [if_pos c107] at H
    have c107b0 : decide (0 ≤ x5_1) = true := decide_eq_true c107
    clear c107
    obtain ⟨bq108, hbq108⟩ : ∃ b_ : Bool, b_ = (rdOf false l0 x5_1) := ⟨_, rfl⟩
    replace H : (if bq108 = true then (if x5_1 < (x3_1.length : Int) then (spec_edge.l0 k1 l0 (x3_1.set (x5_1 : Int).toNat (!false)) 16 (wrap64 (x5_1 + 1))) else (none)) else (if x5_1 < (x3_1.length : Int) then (spec_edge.l0 k1 l0 (x3_1.set (x5_1 : Int).toNat false) 16 (wrap64 (x5_1 + 1))) else (none))) = some r := by rw [← hbq108] at H; exact H
    have Nbq108 := Aside0.mk hbq108
    clear hbq108
    by_cases c109 : bq108 = true
    ·
     subst c109
     have H1 : (if x5_1 < (x3_1.length : Int) then (spec_edge.l0 k1 l0 (x3_1.set (x5_1 : Int).toNat (!false)) 16 (wrap64 (x5_1 + 1))) else (none)) = some r := by rw [if_pos rfl] at H; exact H
     clear H
     have H := H1
     clear H1
     by_cases c110 : x5_1 < (x3_1.length : Int)
     rotate_left
     ·
      rw [if_neg c110] at H
      exact absurd H (by simp)
     rw [if_pos c110] at H
     have c110b0 : decide (x5_1 < (x3_1.length : Int)) = true := decide_eq_true c110
     clear c110
     obtain ⟨y130, hy130⟩ : ∃ y_ : List Bool, y_ = (x3_1.set (x5_1 : Int).toNat (!false)) := ⟨_, rfl⟩
     replace H : (spec_edge.l0 k1 l0 y130 16 (wrap64 (x5_1 + 1))) = some r := by first | (rw [hy130]; with_reducible exact H) | (have H2_ := (Option.bind_some _ _).symm.trans H; rw [hy130]; with_reducible exact H2_) | (have H2_ := (Option.bind_some _ _).symm.trans H; with_reducible exact H2_) | with_reducible exact H | (rw [hy130]; exact H) | exact H
     have Ny130 := Aside0.mk hy130
     clear hy130
     have H' := Aside0.mk H
     clear H
     have p129 : 0 ≤ (x5_1 : Int) := of_decide_eq_true (by first | with_reducible assumption | assumption)
     have q129 : x5_1 < (l0.length : Int) := of_decide_eq_true (by first | with_reducible assumption | assumption)
     obtain ⟨ad129, e129, hx129_0⟩ := Kd.at_bool HR0.out x5_1 p129 q129
     (try rw [← Nbq108.out] at hx129_0)
     cases e129
     replace hx129_0 := (HB.out.cell (World.block_lt_of_cell? w _ hx129_0)).trans hx129_0
     replace p129 := eq_true p129
     replace q129 := eq_true q129
     have p111 : 0 ≤ (x5_1 : Int) := of_decide_eq_true (by first | with_reducible assumption | assumption)
     have q111 : (x5_1 : Int) < ((x3_1.length : Int) : Int) := of_decide_eq_true (by first | with_reducible assumption | assumption)
     obtain ⟨go111, co111, eo111, gb111, gl111, cl111, HG111⟩ := Kd.R_form HO_3.out (by omega)
     (first | cases eo111 | (injection eo111 with ea_ en_ ec_; (first | subst ea_ | (injection ea_ with ea_; subst ea_)); subst ec_; clear en_))
     have GB111 := Aside0.mk gb111
     have GG111 := Aside0.mk HG111
     clear gb111 gl111 HG111
     obtain ⟨hx111_0, hf111_0⟩ := Kd.R_celln false HO_3.out (x5_1 : Int) p111 q111
     replace p111 := eq_true p111
     replace q111 := eq_true q111
     have HP112 := Kd.R_putg HO_3.out (x5_1 : Int) (!false)
     go_wp2_with (first | ((with_reducible refine gate_store (t := 4) (p := 83) rfl ?_); refine store_event (t := 4) (p := 83) (v := ?vo_w113) (w1 := (wr.setCell ⟨go111, (x5_1 : Int).toNat, none⟩ (.bool (!false)))) ?hg ?ho ?hn ?hr ?_; (case ho => rfl); (case hg => rfl); (case hn => rfl); (case hr => first | (go_simp; done) | (go_simp; rfl)); intro w113 hw; have hg : wr.grownBy w113 (some go111) := (by rw [hw]; exact HP112.2); have hp_ : Kd.R Kd.bool 4 w113 w.heap.size (fun _ => True) (.slice (some ⟨go111, 0, none⟩) x3_1.length co111) y130 := (by rw [hw, Ny130.out]; exact HP112.1); clear HP112; replace HO_3 := am_ (hp_); replace HB := am_ ((by rw [hw]; exact below_set (HB.out) GB111.out : Below w.heap.size w w113)); clear hg hw hp_))
     go_roundg k1
     case measure => have := HK1.out; omega
     case rel => exact ⟨(y130), (wrap64 (x5_1 + 1)), (by first | rfl | (simp; done) | (simp [*]; done)), H', ⟨by have := HK1.out; omega⟩, ⟨by exact HO_3.out⟩, ⟨by repeat (first | (with_reducible first | exact HB.out | apply below_alloc | apply pw_below_drewN | apply below_drew1) | exact HB.out)⟩⟩
    replace c109 := Bool.eq_false_iff.mpr c109
    subst c109
    have H1 : (if x5_1 < (x3_1.length : Int) then (spec_edge.l0 k1 l0 (x3_1.set (x5_1 : Int).toNat false) 16 (wrap64 (x5_1 + 1))) else (none)) = some r := by rw [if_neg (show ¬ (false = true) by decide)] at H; exact H
    clear H
    have H := H1
    clear H1
    by_cases c114 : x5_1 < (x3_1.length : Int)
    rotate_left
    ·
     rw [if_neg c114] at H
     exact absurd H (by simp)
    rw [if_pos c114] at H
    have c114b0 : decide (x5_1 < (x3_1.length : Int)) = true := decide_eq_true c114
    clear c114
    obtain ⟨y131, hy131⟩ : ∃ y_ : List Bool, y_ = (x3_1.set (x5_1 : Int).toNat false) := ⟨_, rfl⟩
    replace H : (spec_edge.l0 k1 l0 y131 16 (wrap64 (x5_1 + 1))) = some r := by first | (rw [hy131]; with_reducible exact H) | (have H2_ := (Option.bind_some _ _).symm.trans H; rw [hy131]; with_reducible exact H2_) | (have H2_ := (Option.bind_some _ _).symm.trans H; with_reducible exact H2_) | with_reducible exact H | (rw [hy131]; exact H) | exact H
    have Ny131 := Aside0.mk hy131
    clear hy131
    have H' := Aside0.mk H
    clear H
    have p129 : 0 ≤ (x5_1 : Int) := of_decide_eq_true (by first | with_reducible assumption | assumption)
    have q129 : x5_1 < (l0.length : Int) := of_decide_eq_true (by first | with_reducible assumption | assumption)
    obtain ⟨ad129, e129, hx129_0⟩ := Kd.at_bool HR0.out x5_1 p129 q129
    (try rw [← Nbq108.out] at hx129_0)
    cases e129
    replace hx129_0 := (HB.out.cell (World.block_lt_of_cell? w _ hx129_0)).trans hx129_0
    replace p129 := eq_true p129
    replace q129 := eq_true q129
    have p115 : 0 ≤ (x5_1 : Int) := of_decide_eq_true (by first | with_reducible assumption | assumption)
    have q115 : (x5_1 : Int) < ((x3_1.length : Int) : Int) := of_decide_eq_true (by first | with_reducible assumption | assumption)
    obtain ⟨go115, co115, eo115, gb115, gl115, cl115, HG115⟩ := Kd.R_form HO_3.out (by omega)
    (first | cases eo115 | (injection eo115 with ea_ en_ ec_; (first | subst ea_ | (injection ea_ with ea_; subst ea_)); subst ec_; clear en_))
    have GB115 := Aside0.mk gb115
    have GG115 := Aside0.mk HG115
    clear gb115 gl115 HG115
    obtain ⟨hx115_0, hf115_0⟩ := Kd.R_celln false HO_3.out (x5_1 : Int) p115 q115
    replace p115 := eq_true p115
    replace q115 := eq_true q115
    have HP116 := Kd.R_putg HO_3.out (x5_1 : Int) false
    go_wp2_with (first | ((with_reducible refine gate_store (t := 4) (p := 83) rfl ?_); refine store_event (t := 4) (p := 83) (v := ?vo_w117) (w1 := (wr.setCell ⟨go115, (x5_1 : Int).toNat, none⟩ (.bool false))) ?hg ?ho ?hn ?hr ?_; (case ho => rfl); (case hg => rfl); (case hn => rfl); (case hr => first | (go_simp; done) | (go_simp; rfl)); intro w117 hw; have hg : wr.grownBy w117 (some go115) := (by rw [hw]; exact HP116.2); have hp_ : Kd.R Kd.bool 4 w117 w.heap.size (fun _ => True) (.slice (some ⟨go115, 0, none⟩) x3_1.length co115) y131 := (by rw [hw, Ny131.out]; exact HP116.1); clear HP116; replace HO_3 := am_ (hp_); replace HB := am_ ((by rw [hw]; exact below_set (HB.out) GB115.out : Below w.heap.size w w117)); clear hg hw hp_))
    go_roundg k1
    case measure => have := HK1.out; omega
    case rel => exact ⟨(y131), (wrap64 (x5_1 + 1)), (by first | rfl | (simp; done) | (simp [*]; done)), H', ⟨by have := HK1.out; omega⟩, ⟨by exact HO_3.out⟩, ⟨by repeat (first | (with_reducible first | exact HB.out | apply below_alloc | apply pw_below_drewN | apply below_drew1) | exact HB.out)⟩⟩
   rw [if_pos c8] at H
   have c8b0 : decide (0 < (Int.tmod x5_1 16)) = true := decide_eq_true c8
   clear c8
   by_cases c9 : (Int.tmod x5_1 16) < 15
   rotate_left
   ·
    rw [if_neg c9] at H
    have c9b0 : decide ((Int.tmod x5_1 16) < 15) = false := decide_eq_false c9
    clear c9
    by_cases c96 : 0 ≤ x5_1
    rotate_left
    ·
     rw [if_neg c96] at H
     exact absurd H (by simp)
    rw [if_pos c96] at H
    have c96b0 : decide (0 ≤ x5_1) = true := decide_eq_true c96
    clear c96
    obtain ⟨bq97, hbq97⟩ : ∃ b_ : Bool, b_ = (rdOf false l0 x5_1) := ⟨_, rfl⟩
    replace H : (if bq97 = true then (if x5_1 < (x3_1.length : Int) then (spec_edge.l0 k1 l0 (x3_1.set (x5_1 : Int).toNat (!false)) 16 (wrap64 (x5_1 + 1))) else (none)) else (if x5_1 < (x3_1.length : Int) then (spec_edge.l0 k1 l0 (x3_1.set (x5_1 : Int).toNat false) 16 (wrap64 (x5_1 + 1))) else (none))) = some r := by rw [← hbq97] at H; exact H
    have Nbq97 := Aside0.mk hbq97
    clear hbq97
    by_cases c98 : bq97 = true
    ·
     subst c98
     have H1 : (if x5_1 < (x3_1.length : Int) then (spec_edge.l0 k1 l0 (x3_1.set (x5_1 : Int).toNat (!false)) 16 (wrap64 (x5_1 + 1))) else (none)) = some r := by rw [if_pos rfl] at H; exact H
     clear H
     have H := H1
     clear H1
     by_cases c99 : x5_1 < (x3_1.length : Int)
     rotate_left
     ·
      rw [if_neg c99] at H
      exact absurd H (by simp)
     rw [if_pos c99] at H
     have c99b0 : decide (x5_1 < (x3_1.length : Int)) = true := decide_eq_true c99
     clear c99
     obtain ⟨y127, hy127⟩ : ∃ y_ : List Bool, y_ = (x3_1.set (x5_1 : Int).toNat (!false)) := ⟨_, rfl⟩
     replace H : (spec_edge.l0 k1 l0 y127 16 (wrap64 (x5_1 + 1))) = some r := by first | (rw [hy127]; with_reducible exact H) | (have H2_ := (Option.bind_some _ _).symm.trans H; rw [hy127]; with_reducible exact H2_) | (have H2_ := (Option.bind_some _ _).symm.trans H; with_reducible exact H2_) | with_reducible exact H | (rw [hy127]; exact H) | exact H
     have Ny127 := Aside0.mk hy127
     clear hy127
     have H' := Aside0.mk H
     clear H
     have p126 : 0 ≤ (x5_1 : Int) := of_decide_eq_true (by first | with_reducible assumption | assumption)
     have q126 : x5_1 < (l0.length : Int) := of_decide_eq_true (by first | with_reducible assumption | assumption)
     obtain ⟨ad126, e126, hx126_0⟩ := Kd.at_bool HR0.out x5_1 p126 q126
     (try rw [← Nbq97.out] at hx126_0)
     cases e126
     replace hx126_0 := (HB.out.cell (World.block_lt_of_cell? w _ hx126_0)).trans hx126_0
     replace p126 := eq_true p126
     replace q126 := eq_true q126
     have p100 : 0 ≤ (x5_1 : Int) := of_decide_eq_true (by first | with_reducible assumption | assumption)
     have q100 : (x5_1 : Int) < ((x3_1.length : Int) : Int) := of_decide_eq_true (by first | with_reducible assumption | assumption)
     obtain ⟨go100, co100, eo100, gb100, gl100, cl100, HG100⟩ := Kd.R_form HO_3.out (by omega)
     (first | cases eo100 | (injection eo100 with ea_ en_ ec_; (first | subst ea_ | (injection ea_ with ea_; subst ea_)); subst ec_; clear en_))
     have GB100 := Aside0.mk gb100
     have GG100 := Aside0.mk HG100
     clear gb100 gl100 HG100
     obtain ⟨hx100_0, hf100_0⟩ := Kd.R_celln false HO_3.out (x5_1 : Int) p100 q100
     replace p100 := eq_true p100
     replace q100 := eq_true q100
     have HP101 := Kd.R_putg HO_3.out (x5_1 : Int) (!false)
     go_wp2_with (first | ((with_reducible refine gate_store (t := 4) (p := 83) rfl ?_); refine store_event (t := 4) (p := 83) (v := ?vo_w102) (w1 := (wr.setCell ⟨go100, (x5_1 : Int).toNat, none⟩ (.bool (!false)))) ?hg ?ho ?hn ?hr ?_; (case ho => rfl); (case hg => rfl); (case hn => rfl); (case hr => first | (go_simp; done) | (go_simp; rfl)); intro w102 hw; have hg : wr.grownBy w102 (some go100) := (by rw [hw]; exact HP101.2); have hp_ : Kd.R Kd.bool 4 w102 w.heap.size (fun _ => True) (.slice (some ⟨go100, 0, none⟩) x3_1.length co100) y127 := (by rw [hw, Ny127.out]; exact HP101.1); clear HP101; replace HO_3 := am_ (hp_); replace HB := am_ ((by rw [hw]; exact below_set (HB.out) GB100.out : Below w.heap.size w w102)); clear hg hw hp_))
     go_roundg k1
     case measure => have := HK1.out; omega
     case rel => exact ⟨(y127), (wrap64 (x5_1 + 1)), (by first | rfl | (simp; done) | (simp [*]; done)), H', ⟨by have := HK1.out; omega⟩, ⟨by exact HO_3.out⟩, ⟨by repeat (first | (with_reducible first | exact HB.out | apply below_alloc | apply pw_below_drewN | apply below_drew1) | exact HB.out)⟩⟩
    replace c98 := Bool.eq_false_iff.mpr c98
    subst c98
    have H1 : (if x5_1 < (x3_1.length : Int) then (spec_edge.l0 k1 l0 (x3_1.set (x5_1 : Int).toNat false) 16 (wrap64 (x5_1 + 1))) else (none)) = some r := by rw [if_neg (show ¬ (false = true) by decide)] at H; exact H
    clear H
    have H := H1
    clear H1
    by_cases c103 : x5_1 < (x3_1.length : Int)
    rotate_left
    ·
     rw [if_neg c103] at H
     exact absurd H (by simp)
    rw [if_pos c103] at H
    have c103b0 : decide (x5_1 < (x3_1.length : Int)) = true := decide_eq_true c103
    clear c103
    obtain ⟨y128, hy128⟩ : ∃ y_ : List Bool, y_ = (x3_1.set (x5_1 : Int).toNat false) := ⟨_, rfl⟩
    replace H : (spec_edge.l0 k1 l0 y128 16 (wrap64 (x5_1 + 1))) = some r := by first | (rw [hy128]; with_reducible exact H) | (have H2_ := (Option.bind_some _ _).symm.trans H; rw [hy128]; with_reducible exact H2_) | (have H2_ := (Option.bind_some _ _).symm.trans H; with_reducible exact H2_) | with_reducible exact H | (rw [hy128]; exact H) | exact H
    have Ny128 := Aside0.mk hy128
    clear hy128
    have H' := Aside0.mk H
    clear H
    have p126 : 0 ≤ (x5_1 : Int) := of_decide_eq_true (by first | with_reducible assumption | assumption)
    have q126 : x5_1 < (l0.length : Int) := of_decide_eq_true (by first | with_reducible assumption | assumption)
    obtain ⟨ad126, e126, hx126_0⟩ := Kd.at_bool HR0.out x5_1 p126 q126
    (try rw [← Nbq97.out] at hx126_0)
    cases e126
    replace hx126_0 := (HB.out.cell (World.block_lt_of_cell? w _ hx126_0)).trans hx126_0
    replace p126 := eq_true p126
    replace q126 := eq_true q126
    have p104 : 0 ≤ (x5_1 : Int) := of_decide_eq_true (by first | with_reducible assumption | assumption)
    have q104 : (x5_1 : Int) < ((x3_1.length : Int) : Int) := of_decide_eq_true (by first | with_reducible assumption | assumption)
    obtain ⟨go104, co104, eo104, gb104, gl104, cl104, HG104⟩ := Kd.R_form HO_3.out (by omega)
    (first | cases eo104 | (injection eo104 with ea_ en_ ec_; (first | subst ea_ | (injection ea_ with ea_; subst ea_)); subst ec_; clear en_))
    have GB104 := Aside0.mk gb104
    have GG104 := Aside0.mk HG104
    clear gb104 gl104 HG104
    obtain ⟨hx104_0, hf104_0⟩ := Kd.R_celln false HO_3.out (x5_1 : Int) p104 q104
    replace p104 := eq_true p104
    replace q104 := eq_true q104
    have HP105 := Kd.R_putg HO_3.out (x5_1 : Int) false
    go_wp2_with (first | ((with_reducible refine gate_store (t := 4) (p := 83) rfl ?_); refine store_event (t := 4) (p := 83) (v := ?vo_w106) (w1 := (wr.setCell ⟨go104, (x5_1 : Int).toNat, none⟩ (.bool false))) ?hg ?ho ?hn ?hr ?_; (case ho => rfl); (case hg => rfl); (case hn => rfl); (case hr => first | (go_simp; done) | (go_simp; rfl)); intro w106 hw; have hg : wr.grownBy w106 (some go104) := (by rw [hw]; exact HP105.2); have hp_ : Kd.R Kd.bool 4 w106 w.heap.size (fun _ => True) (.slice (some ⟨go104, 0, none⟩) x3_1.length co104) y128 := (by rw [hw, Ny128.out]; exact HP105.1); clear HP105; replace HO_3 := am_ (hp_); replace HB := am_ ((by rw [hw]; exact below_set (HB.out) GB104.out : Below w.heap.size w w106)); clear hg hw hp_))
    go_roundg k1
    case measure => have := HK1.out; omega
    case rel => exact ⟨(y128), (wrap64 (x5_1 + 1)), (by first | rfl | (simp; done) | (simp [*]; done)), H', ⟨by have := HK1.out; omega⟩, ⟨by exact HO_3.out⟩, ⟨by repeat (first | (with_reducible first | exact HB.out | apply below_alloc | apply pw_below_drewN | apply below_drew1) | exact HB.out)⟩⟩
   rw [if_pos c9] at H
   have c9b0 : decide ((Int.tmod x5_1 16) < 15) = true := decide_eq_true c9
   clear c9
   by_cases c10 : (wrap64 (Int.tdiv x5_1 16)) > 0
   rotate_left
   ·
    rw [if_neg c10] at H
    have c10b0 : decide (0 < (wrap64 (Int.tdiv x5_1 16))) = false := decide_eq_false c10
    clear c10
    by_cases c85 : 0 ≤ x5_1
    rotate_left
    ·
     rw [if_neg c85] at H
     exact absurd H (by simp)
    rw [if_pos c85] at H
    have c85b0 : decide (0 ≤ x5_1) = true := decide_eq_true c85
    clear c85
    obtain ⟨bq86, hbq86⟩ : ∃ b_ : Bool, b_ = (rdOf false l0 x5_1) := ⟨_, rfl⟩
    replace H : (if bq86 = true then (if x5_1 < (x3_1.length : Int) then (spec_edge.l0 k1 l0 (x3_1.set (x5_1 : Int).toNat (!false)) 16 (wrap64 (x5_1 + 1))) else (none)) else (if x5_1 < (x3_1.length : Int) then (spec_edge.l0 k1 l0 (x3_1.set (x5_1 : Int).toNat false) 16 (wrap64 (x5_1 + 1))) else (none))) = some r := by rw [← hbq86] at H; exact H
    have Nbq86 := Aside0.mk hbq86
    clear hbq86
    by_cases c87 : bq86 = true
    ·
     subst c87
     have H1 : (if x5_1 < (x3_1.length : Int) then (spec_edge.l0 k1 l0 (x3_1.set (x5_1 : Int).toNat (!false)) 16 (wrap64 (x5_1 + 1))) else (none)) = some r := by rw [if_pos rfl] at H; exact H
     clear H
     have H := H1
     clear H1
     by_cases c88 : x5_1 < (x3_1.length : Int)
     rotate_left
     ·
      rw [if_neg c88] at H
      exact absurd H (by simp)
     rw [if_pos c88] at H
     have c88b0 : decide (x5_1 < (x3_1.length : Int)) = true := decide_eq_true c88
     clear c88
     obtain ⟨y124, hy124⟩ : ∃ y_ : List Bool, y_ = (x3_1.set (x5_1 : Int).toNat (!false)) := ⟨_, rfl⟩
     replace H : (spec_edge.l0 k1 l0 y124 16 (wrap64 (x5_1 + 1))) = some r := by first | (rw [hy124]; with_reducible exact H) | (have H2_ := (Option.bind_some _ _).symm.trans H; rw [hy124]; with_reducible exact H2_) | (have H2_ := (Option.bind_some _ _).symm.trans H; with_reducible exact H2_) | with_reducible exact H | (rw [hy124]; exact H) | exact H
     have Ny124 := Aside0.mk hy124
     clear hy124
     have H' := Aside0.mk H
     clear H
     have p123 : 0 ≤ (x5_1 : Int) := of_decide_eq_true (by first | with_reducible assumption | assumption)
     have q123 : x5_1 < (l0.length : Int) := of_decide_eq_true (by first | with_reducible assumption | assumption)
     obtain ⟨ad123, e123, hx123_0⟩ := Kd.at_bool HR0.out x5_1 p123 q123
     (try rw [← Nbq86.out] at hx123_0)
     cases e123
     replace hx123_0 := (HB.out.cell (World.block_lt_of_cell? w _ hx123_0)).trans hx123_0
     replace p123 := eq_true p123
     replace q123 := eq_true q123
     have p89 : 0 ≤ (x5_1 : Int) := of_decide_eq_true (by first | with_reducible assumption | assumption)
     have q89 : (x5_1 : Int) < ((x3_1.length : Int) : Int) := of_decide_eq_true (by first | with_reducible assumption | assumption)
     obtain ⟨go89, co89, eo89, gb89, gl89, cl89, HG89⟩ := Kd.R_form HO_3.out (by omega)
     (first | cases eo89 | (injection eo89 with ea_ en_ ec_; (first | subst ea_ | (injection ea_ with ea_; subst ea_)); subst ec_; clear en_))
     have GB89 := Aside0.mk gb89
     have GG89 := Aside0.mk HG89
     clear gb89 gl89 HG89
     obtain ⟨hx89_0, hf89_0⟩ := Kd.R_celln false HO_3.out (x5_1 : Int) p89 q89
     replace p89 := eq_true p89
     replace q89 := eq_true q89
     have HP90 := Kd.R_putg HO_3.out (x5_1 : Int) (!false)
     go_wp2_with (first | ((with_reducible refine gate_store (t := 4) (p := 83) rfl ?_); refine store_event (t := 4) (p := 83) (v := ?vo_w91) (w1 := (wr.setCell ⟨go89, (x5_1 : Int).toNat, none⟩ (.bool (!false)))) ?hg ?ho ?hn ?hr ?_; (case ho => rfl); (case hg => rfl); (case hn => rfl); (case hr => first | (go_simp; done) | (go_simp; rfl)); intro w91 hw; have hg : wr.grownBy w91 (some go89) := (by rw [hw]; exact HP90.2); have hp_ : Kd.R Kd.bool 4 w91 w.heap.size (fun _ => True) (.slice (some ⟨go89, 0, none⟩) x3_1.length co89) y124 := (by rw [hw, Ny124.out]; exact HP90.1); clear HP90; replace HO_3 := am_ (hp_); replace HB := am_ ((by rw [hw]; exact below_set (HB.out) GB89.out : Below w.heap.size w w91)); clear hg hw hp_))
     go_roundg k1
     case measure => have := HK1.out; omega
     case rel => exact ⟨(y124), (wrap64 (x5_1 + 1)), (by first | rfl | (simp; done) | (simp [*]; done)), H', ⟨by have := HK1.out; omega⟩, ⟨by exact HO_3.out⟩, ⟨by repeat (first | (with_reducible first | exact HB.out | apply below_alloc | apply pw_below_drewN | apply below_drew1) | exact HB.out)⟩⟩
    replace c87 := Bool.eq_false_iff.mpr c87
    subst c87
    have H1 : (if x5_1 < (x3_1.length : Int) then (spec_edge.l0 k1 l0 (x3_1.set (x5_1 : Int).toNat false) 16 (wrap64 (x5_1 + 1))) else (none)) = some r := by rw [if_neg (show ¬ (false = true) by decide)] at H; exact H
    clear H
    have H := H1
    clear H1
    by_cases c92 : x5_1 < (x3_1.length : Int)
    rotate_left
    ·
     rw [if_neg c92] at H
     exact absurd H (by simp)
    rw [if_pos c92] at H
    have c92b0 : decide (x5_1 < (x3_1.length : Int)) = true := decide_eq_true c92
    clear c92
    obtain ⟨y125, hy125⟩ : ∃ y_ : List Bool, y_ = (x3_1.set (x5_1 : Int).toNat false) := ⟨_, rfl⟩
    replace H : (spec_edge.l0 k1 l0 y125 16 (wrap64 (x5_1 + 1))) = some r := by first | (rw [hy125]; with_reducible exact H) | (have H2_ := (Option.bind_some _ _).symm.trans H; rw [hy125]; with_reducible exact H2_) | (have H2_ := (Option.bind_some _ _).symm.trans H; with_reducible exact H2_) | with_reducible exact H | (rw [hy125]; exact H) | exact H
    have Ny125 := Aside0.mk hy125
    clear hy125
    have H' := Aside0.mk H
    clear H
    have p123 : 0 ≤ (x5_1 : Int) := of_decide_eq_true (by first | with_reducible assumption | assumption)
    have q123 : x5_1 < (l0.length : Int) := of_decide_eq_true (by first | with_reducible assumption | assumption)
    obtain ⟨ad123, e123, hx123_0⟩ := Kd.at_bool HR0.out x5_1 p123 q123
    (try rw [← Nbq86.out] at hx123_0)
    cases e123
    replace hx123_0 := (HB.out.cell (World.block_lt_of_cell? w _ hx123_0)).trans hx123_0
    replace p123 := eq_true p123
    replace q123 := eq_true q123
    have p93 : 0 ≤ (x5_1 : Int) := of_decide_eq_true (by first | with_reducible assumption | assumption)
    have q93 : (x5_1 : Int) < ((x3_1.length : Int) : Int) := of_decide_eq_true (by first | with_reducible assumption | assumption)
    obtain ⟨go93, co93, eo93, gb93, gl93, cl93, HG93⟩ := Kd.R_form HO_3.out (by omega)
    (first | cases eo93 | (injection eo93 with ea_ en_ ec_; (first | subst ea_ | (injection ea_ with ea_; subst ea_)); subst ec_; clear en_))
    have GB93 := Aside0.mk gb93
    have GG93 := Aside0.mk HG93
    clear gb93 gl93 HG93
    obtain ⟨hx93_0, hf93_0⟩ := Kd.R_celln false HO_3.out (x5_1 : Int) p93 q93
    replace p93 := eq_true p93
    replace q93 := eq_true q93
    have HP94 := Kd.R_putg HO_3.out (x5_1 : Int) false
    go_wp2_with (first | ((with_reducible refine gate_store (t := 4) (p := 83) rfl ?_); refine store_event (t := 4) (p := 83) (v := ?vo_w95) (w1 := (wr.setCell ⟨go93, (x5_1 : Int).toNat, none⟩ (.bool false))) ?hg ?ho ?hn ?hr ?_; (case ho => rfl); (case hg => rfl); (case hn => rfl); (case hr => first | (go_simp; done) | (go_simp; rfl)); intro w95 hw; have hg : wr.grownBy w95 (some go93) := (by rw [hw]; exact HP94.2); have hp_ : Kd.R Kd.bool 4 w95 w.heap.size (fun _ => True) (.slice (some ⟨go93, 0, none⟩) x3_1.length co93) y125 := (by rw [hw, Ny125.out]; exact HP94.1); clear HP94; replace HO_3 := am_ (hp_); replace HB := am_ ((by rw [hw]; exact below_set (HB.out) GB93.out : Below w.heap.size w w95)); clear hg hw hp_))
    go_roundg k1
    case measure => have := HK1.out; omega
    case rel => exact ⟨(y125), (wrap64 (x5_1 + 1)), (by first | rfl | (simp; done) | (simp [*]; done)), H', ⟨by have := HK1.out; omega⟩, ⟨by exact HO_3.out⟩, ⟨by repeat (first | (with_reducible first | exact HB.out | apply below_alloc | apply pw_below_drewN | apply below_drew1) | exact HB.out)⟩⟩
   rw [if_pos c10] at H
   have c10b0 : decide (0 < (wrap64 (Int.tdiv x5_1 16))) = true := decide_eq_true c10
   clear c10
   by_cases c11 : (wrap64 (Int.tdiv x5_1 16)) < 15
   rotate_left
   ·
    rw [if_neg c11] at H
    have c11b0 : decide ((wrap64 (Int.tdiv x5_1 16)) < 15) = false := decide_eq_false c11
    clear c11
    by_cases c74 : 0 ≤ x5_1
    rotate_left
    ·
     rw [if_neg c74] at H
     exact absurd H (by simp)
    rw [if_pos c74] at H
    have c74b0 : decide (0 ≤ x5_1) = true := decide_eq_true c74
    clear c74
    obtain ⟨bq75, hbq75⟩ : ∃ b_ : Bool, b_ = (rdOf false l0 x5_1) := ⟨_, rfl⟩
    replace H : (if bq75 = true then (if x5_1 < (x3_1.length : Int) then (spec_edge.l0 k1 l0 (x3_1.set (x5_1 : Int).toNat (!false)) 16 (wrap64 (x5_1 + 1))) else (none)) else (if x5_1 < (x3_1.length : Int) then (spec_edge.l0 k1 l0 (x3_1.set (x5_1 : Int).toNat false) 16 (wrap64 (x5_1 + 1))) else (none))) = some r := by rw [← hbq75] at H; exact H
    have Nbq75 := Aside0.mk hbq75
    clear hbq75
    by_cases c76 : bq75 = true
    ·
     subst c76
     have H1 : (if x5_1 < (x3_1.length : Int) then (spec_edge.l0 k1 l0 (x3_1.set (x5_1 : Int).toNat (!false)) 16 (wrap64 (x5_1 + 1))) else (none)) = some r := by rw [if_pos rfl] at H; exact H
     clear H
     have H := H1
     clear H1
     by_cases c77 : x5_1 < (x3_1.length : Int)
     rotate_left
     ·
      rw [if_neg c77] at H
      exact absurd H (by simp)
     rw [if_pos c77] at H
     have c77b0 : decide (x5_1 < (x3_1.length : Int)) = true := decide_eq_true c77
     clear c77
     obtain ⟨y121, hy121⟩ : ∃ y_ : List Bool, y_ = (x3_1.set (x5_1 : Int).toNat (!false)) := ⟨_, rfl⟩
     replace H : (spec_edge.l0 k1 l0 y121 16 (wrap64 (x5_1 + 1))) = some r := by first | (rw [hy121]; with_reducible exact H) | (have H2_ := (Option.bind_some _ _).symm.trans H; rw [hy121]; with_reducible exact H2_) | (have H2_ := (Option.bind_some _ _).symm.trans H; with_reducible exact H2_) | with_reducible exact H | (rw [hy121]; exact H) | exact H
     have Ny121 := Aside0.mk hy121
     clear hy121
     have H' := Aside0.mk H
     clear H
     have p120 : 0 ≤ (x5_1 : Int) := of_decide_eq_true (by first | with_reducible assumption | assumption)
     have q120 : x5_1 < (l0.length : Int) := of_decide_eq_true (by first | with_reducible assumption | assumption)
     obtain ⟨ad120, e120, hx120_0⟩ := Kd.at_bool HR0.out x5_1 p120 q120
     (try rw [← Nbq75.out] at hx120_0)
     cases e120
     replace hx120_0 := (HB.out.cell (World.block_lt_of_cell? w _ hx120_0)).trans hx120_0
     replace p120 := eq_true p120
     replace q120 := eq_true q120
     have p78 : 0 ≤ (x5_1 : Int) := of_decide_eq_true (by first | with_reducible assumption | assumption)
     have q78 : (x5_1 : Int) < ((x3_1.length : Int) : Int) := of_decide_eq_true (by first | with_reducible assumption | assumption)
     obtain ⟨go78, co78, eo78, gb78, gl78, cl78, HG78⟩ := Kd.R_form HO_3.out (by omega)
     (first | cases eo78 | (injection eo78 with ea_ en_ ec_; (first | subst ea_ | (injection ea_ with ea_; subst ea_)); subst ec_; clear en_))
     have GB78 := Aside0.mk gb78
     have GG78 := Aside0.mk HG78
     clear gb78 gl78 HG78
     obtain ⟨hx78_0, hf78_0⟩ := Kd.R_celln false HO_3.out (x5_1 : Int) p78 q78
     replace p78 := eq_true p78
     replace q78 := eq_true q78
     have HP79 := Kd.R_putg HO_3.out (x5_1 : Int) (!false)
     go_wp2_with (first | ((with_reducible refine gate_store (t := 4) (p := 83) rfl ?_); refine store_event (t := 4) (p := 83) (v := ?vo_w80) (w1 := (wr.setCell ⟨go78, (x5_1 : Int).toNat, none⟩ (.bool (!false)))) ?hg ?ho ?hn ?hr ?_; (case ho => rfl); (case hg => rfl); (case hn => rfl); (case hr => first | (go_simp; done) | (go_simp; rfl)); intro w80 hw; have hg : wr.grownBy w80 (some go78) := (by rw [hw]; exact HP79.2); have hp_ : Kd.R Kd.bool 4 w80 w.heap.size (fun _ => True) (.slice (some ⟨go78, 0, none⟩) x3_1.length co78) y121 := (by rw [hw, Ny121.out]; exact HP79.1); clear HP79; replace HO_3 := am_ (hp_); replace HB := am_ ((by rw [hw]; exact below_set (HB.out) GB78.out : Below w.heap.size w w80)); clear hg hw hp_))
     go_roundg k1
     case measure => have := HK1.out; omega
     case rel => exact ⟨(y121), (wrap64 (x5_1 + 1)), (by first | rfl | (simp; done) | (simp [*]; done)), H', ⟨by have := HK1.out; omega⟩, ⟨by exact HO_3.out⟩, ⟨by repeat (first | (with_reducible first | exact HB.out | apply below_alloc | apply pw_below_drewN | apply below_drew1) | exact HB.out)⟩⟩
    replace c76 := Bool.eq_false_iff.mpr c76
    subst c76
    have H1 : (if x5_1 < (x3_1.length : Int) then (spec_edge.l0 k1 l0 (x3_1.set (x5_1 : Int).toNat false) 16 (wrap64 (x5_1 + 1))) else (none)) = some r := by rw [if_neg (show ¬ (false = true) by decide)] at H; exact H
    clear H
    have H := H1
    clear H1
    by_cases c81 : x5_1 < (x3_1.length : Int)
    rotate_left
    ·
     rw [if_neg c81] at H
     exact absurd H (by simp)
    rw [if_pos c81] at H
    have c81b0 : decide (x5_1 < (x3_1.length : Int)) = true := decide_eq_true c81
    clear c81
    obtain ⟨y122, hy122⟩ : ∃ y_ : List Bool, y_ = (x3_1.set (x5_1 : Int).toNat false) := ⟨_, rfl⟩
    replace H : (spec_edge.l0 k1 l0 y122 16 (wrap64 (x5_1 + 1))) = some r := by first | (rw [hy122]; with_reducible exact H) | (have H2_ := (Option.bind_some _ _).symm.trans H; rw [hy122]; with_reducible exact H2_) | (have H2_ := (Option.bind_some _ _).symm.trans H; with_reducible exact H2_) | with_reducible exact H | (rw [hy122]; exact H) | exact H
    have Ny122 := Aside0.mk hy122
    clear hy122
    have H' := Aside0.mk H
    clear H
    have p120 : 0 ≤ (x5_1 : Int) := of_decide_eq_true (by first | with_reducible assumption | assumption)
    have q120 : x5_1 < (l0.length : Int) := of_decide_eq_true (by first | with_reducible assumption | assumption)
    obtain ⟨ad120, e120, hx120_0⟩ := Kd.at_bool HR0.out x5_1 p120 q120
    (try rw [← Nbq75.out] at hx120_0)
    cases e120
    replace hx120_0 := (HB.out.cell (World.block_lt_of_cell? w _ hx120_0)).trans hx120_0
    replace p120 := eq_true p120
    replace q120 := eq_true q120
    have p82 : 0 ≤ (x5_1 : Int) := of_decide_eq_true (by first | with_reducible assumption | assumption)
    have q82 : (x5_1 : Int) < ((x3_1.length : Int) : Int) := of_decide_eq_true (by first | with_reducible assumption | assumption)
    obtain ⟨go82, co82, eo82, gb82, gl82, cl82, HG82⟩ := Kd.R_form HO_3.out (by omega)
    (first | cases eo82 | (injection eo82 with ea_ en_ ec_; (first | subst ea_ | (injection ea_ with ea_; subst ea_)); subst ec_; clear en_))
    have GB82 := Aside0.mk gb82
    have GG82 := Aside0.mk HG82
    clear gb82 gl82 HG82
    obtain ⟨hx82_0, hf82_0⟩ := Kd.R_celln false HO_3.out (x5_1 : Int) p82 q82
    replace p82 := eq_true p82
    replace q82 := eq_true q82
    have HP83 := Kd.R_putg HO_3.out (x5_1 : Int) false
    go_wp2_with (first | ((with_reducible refine gate_store (t := 4) (p := 83) rfl ?_); refine store_event (t := 4) (p := 83) (v := ?vo_w84) (w1 := (wr.setCell ⟨go82, (x5_1 : Int).toNat, none⟩ (.bool false))) ?hg ?ho ?hn ?hr ?_; (case ho => rfl); (case hg => rfl); (case hn => rfl); (case hr => first | (go_simp; done) | (go_simp; rfl)); intro w84 hw; have hg : wr.grownBy w84 (some go82) := (by rw [hw]; exact HP83.2); have hp_ : Kd.R Kd.bool 4 w84 w.heap.size (fun _ => True) (.slice (some ⟨go82, 0, none⟩) x3_1.length co82) y122 := (by rw [hw, Ny122.out]; exact HP83.1); clear HP83; replace HO_3 := am_ (hp_); replace HB := am_ ((by rw [hw]; exact below_set (HB.out) GB82.out : Below w.heap.size w w84)); clear hg hw hp_))
    go_roundg k1
    case measure => have := HK1.out; omega
    case rel => exact ⟨(y122), (wrap64 (x5_1 + 1)), (by first | rfl | (simp; done) | (simp [*]; done)), H', ⟨by have := HK1.out; omega⟩, ⟨by exact HO_3.out⟩, ⟨by repeat (first | (with_reducible first | exact HB.out | apply below_alloc | apply pw_below_drewN | apply below_drew1) | exact HB.out)⟩⟩
   rw [if_pos c11] at H
   have c11b0 : decide ((wrap64 (Int.tdiv x5_1 16)) < 15) = true := decide_eq_true c11
   clear c11
   obtain ⟨ji12, hji12⟩ : ∃ j_ : Int, (wrap64 (x5_1 - 1)) = j_ := ⟨_, rfl⟩
   replace H : (if 0 ≤ (ji12) then (if (ji12) < (l0.length : Int) then (if rdOf false l0 (ji12) = true then (if 0 ≤ (wrap64 (x5_1 + 1)) then (if (wrap64 (x5_1 + 1)) < (l0.length : Int) then (if rdOf false l0 (wrap64 (x5_1 + 1)) = true then (if 0 ≤ (wrap64 (x5_1 - 16)) then (if (wrap64 (x5_1 - 16)) < (l0.length : Int) then (if rdOf false l0 (wrap64 (x5_1 - 16)) = true then (if 0 ≤ (wrap64 (x5_1 + 16)) then (if (wrap64 (x5_1 + 16)) < (l0.length : Int) then (if 0 ≤ x5_1 then (if rdOf false l0 x5_1 = true then (if x5_1 < (x3_1.length : Int) then (spec_edge.l0 k1 l0 (x3_1.set (x5_1 : Int).toNat (!(rdOf false l0 (wrap64 (x5_1 + 16))))) 16 (wrap64 (x5_1 + 1))) else (none)) else (if x5_1 < (x3_1.length : Int) then (spec_edge.l0 k1 l0 (x3_1.set (x5_1 : Int).toNat false) 16 (wrap64 (x5_1 + 1))) else (none))) else (none)) else (none)) else (none)) else (if 0 ≤ x5_1 then (if rdOf false l0 x5_1 = true then (if x5_1 < (x3_1.length : Int) then (spec_edge.l0 k1 l0 (x3_1.set (x5_1 : Int).toNat (!false)) 16 (wrap64 (x5_1 + 1))) else (none)) else (if x5_1 < (x3_1.length : Int) then (spec_edge.l0 k1 l0 (x3_1.set (x5_1 : Int).toNat false) 16 (wrap64 (x5_1 + 1))) else (none))) else (none))) else (none)) else (none)) else (if 0 ≤ x5_1 then (if rdOf false l0 x5_1 = true then (if x5_1 < (x3_1.length : Int) then (spec_edge.l0 k1 l0 (x3_1.set (x5_1 : Int).toNat (!false)) 16 (wrap64 (x5_1 + 1))) else (none)) else (if x5_1 < (x3_1.length : Int) then (spec_edge.l0 k1 l0 (x3_1.set (x5_1 : Int).toNat false) 16 (wrap64 (x5_1 + 1))) else (none))) else (none))) else (none)) else (none)) else (if 0 ≤ x5_1 then (if rdOf false l0 x5_1 = true then (if x5_1 < (x3_1.length : Int) then (spec_edge.l0 k1 l0 (x3_1.set (x5_1 : Int).toNat (!false)) 16 (wrap64 (x5_1 + 1))) else (none)) else (if x5_1 < (x3_1.length : Int) then (spec_edge.l0 k1 l0 (x3_1.set (x5_1 : Int).toNat false) 16 (wrap64 (x5_1 + 1))) else (none))) else (none))) else (none)) else (none)) = some r := by first | (rw [hji12] at H; exact H) | (simp only [hji12] at H ⊢; exact H)
   have hji12w : (IntKind.i64.wrap (x5_1 - 1)) = ji12 := (i64_w _).trans hji12
   by_cases c13 : 0 ≤ (ji12)
   rotate_left
   ·
    rw [if_neg c13] at H
    exact absurd H (by simp)
   rw [if_pos c13] at H
   have c13b0 : decide (0 ≤ (ji12)) = true := decide_eq_true c13
   clear c13
   by_cases c14 : (ji12) < (l0.length : Int)
   rotate_left
   ·
    rw [if_neg c14] at H
    exact absurd H (by simp)
   rw [if_pos c14] at H
   have c14b0 : decide ((ji12) < (l0.length : Int)) = true := decide_eq_true c14
   clear c14
   obtain ⟨bq15, hbq15⟩ : ∃ b_ : Bool, b_ = (rdOf false l0 (ji12)) := ⟨_, rfl⟩
   replace H : (if bq15 = true then (if 0 ≤ (wrap64 (x5_1 + 1)) then (if (wrap64 (x5_1 + 1)) < (l0.length : Int) then (if rdOf false l0 (wrap64 (x5_1 + 1)) = true then (if 0 ≤ (wrap64 (x5_1 - 16)) then (if (wrap64 (x5_1 - 16)) < (l0.length : Int) then (if rdOf false l0 (wrap64 (x5_1 - 16)) = true then (if 0 ≤ (wrap64 (x5_1 + 16)) then (if (wrap64 (x5_1 + 16)) < (l0.length : Int) then (if 0 ≤ x5_1 then (if rdOf false l0 x5_1 = true then (if x5_1 < (x3_1.length : Int) then (spec_edge.l0 k1 l0 (x3_1.set (x5_1 : Int).toNat (!(rdOf false l0 (wrap64 (x5_1 + 16))))) 16 (wrap64 (x5_1 + 1))) else (none)) else (if x5_1 < (x3_1.length : Int) then (spec_edge.l0 k1 l0 (x3_1.set (x5_1 : Int).toNat false) 16 (wrap64 (x5_1 + 1))) else (none))) else (none)) else (none)) else (none)) else (if 0 ≤ x5_1 then (if rdOf false l0 x5_1 = true then (if x5_1 < (x3_1.length : Int) then (spec_edge.l0 k1 l0 (x3_1.set (x5_1 : Int).toNat (!false)) 16 (wrap64 (x5_1 + 1))) else (none)) else (if x5_1 < (x3_1.length : Int) then (spec_edge.l0 k1 l0 (x3_1.set (x5_1 : Int).toNat false) 16 (wrap64 (x5_1 + 1))) else (none))) else (none))) else (none)) else (none)) else (if 0 ≤ x5_1 then (if rdOf false l0 x5_1 = true then (if x5_1 < (x3_1.length : Int) then (spec_edge.l0 k1 l0 (x3_1.set (x5_1 : Int).toNat (!false)) 16 (wrap64 (x5_1 + 1))) else (none)) else (if x5_1 < (x3_1.length : Int) then (spec_edge.l0 k1 l0 (x3_1.set (x5_1 : Int).toNat false) 16 (wrap64 (x5_1 + 1))) else (none))) else (none))) else (none)) else (none)) else (if 0 ≤ x5_1 then (if rdOf false l0 x5_1 = true then (if x5_1 < (x3_1.length : Int) then (spec_edge.l0 k1 l0 (x3_1.set (x5_1 : Int).toNat (!false)) 16 (wrap64 (x5_1 + 1))) else (none)) else (if x5_1 < (x3_1.length : Int) then (spec_edge.l0 k1 l0 (x3_1.set (x5_1 : Int).toNat false) 16 (wrap64 (x5_1 + 1))) else (none))) else (none))) = some r := by rw [← hbq15] at H; exact H
   have Nbq15 := Aside0.mk hbq15
   clear hbq15
   by_cases c16 : bq15 = true
   rotate_left
   ·
    replace c16 := Bool.eq_false_iff.mpr c16
    subst c16
    have H1 : (if 0 ≤ x5_1 then (if rdOf false l0 x5_1 = true then (if x5_1 < (x3_1.length : Int) then (spec_edge.l0 k1 l0 (x3_1.set (x5_1 : Int).toNat (!false)) 16 (wrap64 (x5_1 + 1))) else (none)) else (if x5_1 < (x3_1.length : Int) then (spec_edge.l0 k1 l0 (x3_1.set (x5_1 : Int).toNat false) 16 (wrap64 (x5_1 + 1))) else (none))) else (none)) = some r := by rw [if_neg (show ¬ (false = true) by decide)] at H; exact H
    clear H
    have H := H1
    clear H1
    by_cases c63 : 0 ≤ x5_1
    rotate_left
    ·
     rw [if_neg c63] at H
     exact absurd H (by simp)
    rw [if_pos c63] at H
    have c63b0 : decide (0 ≤ x5_1) = true := decide_eq_true c63
    clear c63
    obtain ⟨bq64, hbq64⟩ : ∃ b_ : Bool, b_ = (rdOf false l0 x5_1) := ⟨_, rfl⟩
    replace H : (if bq64 = true then (if x5_1 < (x3_1.length : Int) then (spec_edge.l0 k1 l0 (x3_1.set (x5_1 : Int).toNat (!false)) 16 (wrap64 (x5_1 + 1))) else (none)) else (if x5_1 < (x3_1.length : Int) then (spec_edge.l0 k1 l0 (x3_1.set (x5_1 : Int).toNat false) 16 (wrap64 (x5_1 + 1))) else (none))) = some r := by rw [← hbq64] at H; exact H
    have Nbq64 := Aside0.mk hbq64
    clear hbq64
    by_cases c65 : bq64 = true
    ·
     subst c65
     have H1 : (if x5_1 < (x3_1.length : Int) then (spec_edge.l0 k1 l0 (x3_1.set (x5_1 : Int).toNat (!false)) 16 (wrap64 (x5_1 + 1))) else (none)) = some r := by rw [if_pos rfl] at H; exact H
     clear H
     have H := H1
     clear H1
     by_cases c66 : x5_1 < (x3_1.length : Int)
     rotate_left
     ·
      rw [if_neg c66] at H
      exact absurd H (by simp)
     rw [if_pos c66] at H
     have c66b0 : decide (x5_1 < (x3_1.length : Int)) = true := decide_eq_true c66
     clear c66
     obtain ⟨y118, hy118⟩ : ∃ y_ : List Bool, y_ = (x3_1.set (x5_1 : Int).toNat (!false)) := ⟨_, rfl⟩
     replace H : (spec_edge.l0 k1 l0 y118 16 (wrap64 (x5_1 + 1))) = some r := by first | (rw [hy118]; with_reducible exact H) | (have H2_ := (Option.bind_some _ _).symm.trans H; rw [hy118]; with_reducible exact H2_) | (have H2_ := (Option.bind_some _ _).symm.trans H; with_reducible exact H2_) | with_reducible exact H | (rw [hy118]; exact H) | exact H
     have Ny118 := Aside0.mk hy118
     clear hy118
     have H' := Aside0.mk H
     clear H
     have p104 : 0 ≤ ((ji12) : Int) := of_decide_eq_true (by first | with_reducible assumption | assumption)
     have q104 : (ji12) < (l0.length : Int) := of_decide_eq_true (by first | with_reducible assumption | assumption)
     obtain ⟨ad104, e104, hx104_0⟩ := Kd.at_bool HR0.out (ji12) p104 q104
     (try rw [← Nbq15.out] at hx104_0)
     (try rw [← Nbq64.out] at hx104_0)
     cases e104
     replace hx104_0 := (HB.out.cell (World.block_lt_of_cell? w _ hx104_0)).trans hx104_0
     replace p104 := eq_true p104
     replace q104 := eq_true q104
     have p117 : 0 ≤ (x5_1 : Int) := of_decide_eq_true (by first | with_reducible assumption | assumption)
     have q117 : x5_1 < (l0.length : Int) := of_decide_eq_true (by first | with_reducible assumption | assumption)
     obtain ⟨ad117, e117, hx117_0⟩ := Kd.at_bool HR0.out x5_1 p117 q117
     (try rw [← Nbq15.out] at hx117_0)
     (try rw [← Nbq64.out] at hx117_0)
     obtain rfl : ad104 = ad117 := (by injection e117)
     replace hx117_0 := (HB.out.cell (World.block_lt_of_cell? w _ hx117_0)).trans hx117_0
     replace p117 := eq_true p117
     replace q117 := eq_true q117
     have p67 : 0 ≤ (x5_1 : Int) := of_decide_eq_true (by first | with_reducible assumption | assumption)
     have q67 : (x5_1 : Int) < ((x3_1.length : Int) : Int) := of_decide_eq_true (by first | with_reducible assumption | assumption)
     obtain ⟨go67, co67, eo67, gb67, gl67, cl67, HG67⟩ := Kd.R_form HO_3.out (by omega)
     (first | cases eo67 | (injection eo67 with ea_ en_ ec_; (first | subst ea_ | (injection ea_ with ea_; subst ea_)); subst ec_; clear en_))
     have GB67 := Aside0.mk gb67
     have GG67 := Aside0.mk HG67
     clear gb67 gl67 HG67
     obtain ⟨hx67_0, hf67_0⟩ := Kd.R_celln false HO_3.out (x5_1 : Int) p67 q67
     replace p67 := eq_true p67
     replace q67 := eq_true q67
     have HP68 := Kd.R_putg HO_3.out (x5_1 : Int) (!false)
     go_wp2_with (first | ((with_reducible refine gate_store (t := 4) (p := 83) rfl ?_); refine store_event (t := 4) (p := 83) (v := ?vo_w69) (w1 := (wr.setCell ⟨go67, (x5_1 : Int).toNat, none⟩ (.bool (!false)))) ?hg ?ho ?hn ?hr ?_; (case ho => rfl); (case hg => rfl); (case hn => rfl); (case hr => first | (go_simp; done) | (go_simp; rfl)); intro w69 hw; have hg : wr.grownBy w69 (some go67) := (by rw [hw]; exact HP68.2); have hp_ : Kd.R Kd.bool 4 w69 w.heap.size (fun _ => True) (.slice (some ⟨go67, 0, none⟩) x3_1.length co67) y118 := (by rw [hw, Ny118.out]; exact HP68.1); clear HP68; replace HO_3 := am_ (hp_); replace HB := am_ ((by rw [hw]; exact below_set (HB.out) GB67.out : Below w.heap.size w w69)); clear hg hw hp_))
     go_roundg k1
     case measure => have := HK1.out; omega
     case rel => exact ⟨(y118), (wrap64 (x5_1 + 1)), (by first | rfl | (simp; done) | (simp [*]; done)), H', ⟨by have := HK1.out; omega⟩, ⟨by exact HO_3.out⟩, ⟨by repeat (first | (with_reducible first | exact HB.out | apply below_alloc | apply pw_below_drewN | apply below_drew1) | exact HB.out)⟩⟩
    replace c65 := Bool.eq_false_iff.mpr c65
    subst c65
    have H1 : (if x5_1 < (x3_1.length : Int) then (spec_edge.l0 k1 l0 (x3_1.set (x5_1 : Int).toNat false) 16 (wrap64 (x5_1 + 1))) else (none)) = some r := by rw [if_neg (show ¬ (false = true) by decide)] at H; exact H
    clear H
    have H := H1
    clear H1
    by_cases c70 : x5_1 < (x3_1.length : Int)
    rotate_left
    ·
     rw [if_neg c70] at H
     exact absurd H (by simp)
    rw [if_pos c70] at H
    have c70b0 : decide (x5_1 < (x3_1.length : Int)) = true := decide_eq_true c70
    clear c70
    obtain ⟨y119, hy119⟩ : ∃ y_ : List Bool, y_ = (x3_1.set (x5_1 : Int).toNat false) := ⟨_, rfl⟩
    replace H : (spec_edge.l0 k1 l0 y119 16 (wrap64 (x5_1 + 1))) = some r := by first | (rw [hy119]; with_reducible exact H) | (have H2_ := (Option.bind_some _ _).symm.trans H; rw [hy119]; with_reducible exact H2_) | (have H2_ := (Option.bind_some _ _).symm.trans H; with_reducible exact H2_) | with_reducible exact H | (rw [hy119]; exact H) | exact H
    have Ny119 := Aside0.mk hy119
    clear hy119
    have H' := Aside0.mk H
    clear H
    have p104 : 0 ≤ ((ji12) : Int) := of_decide_eq_true (by first | with_reducible assumption | assumption)
    have q104 : (ji12) < (l0.length : Int) := of_decide_eq_true (by first | with_reducible assumption | assumption)
    obtain ⟨ad104, e104, hx104_0⟩ := Kd.at_bool HR0.out (ji12) p104 q104
    (try rw [← Nbq15.out] at hx104_0)
    (try rw [← Nbq64.out] at hx104_0)
    cases e104
    replace hx104_0 := (HB.out.cell (World.block_lt_of_cell? w _ hx104_0)).trans hx104_0
    replace p104 := eq_true p104
    replace q104 := eq_true q104
    have p117 : 0 ≤ (x5_1 : Int) := of_decide_eq_true (by first | with_reducible assumption | assumption)
    have q117 : x5_1 < (l0.length : Int) := of_decide_eq_true (by first | with_reducible assumption | assumption)
    obtain ⟨ad117, e117, hx117_0⟩ := Kd.at_bool HR0.out x5_1 p117 q117
    (try rw [← Nbq15.out] at hx117_0)
    (try rw [← Nbq64.out] at hx117_0)
    obtain rfl : ad104 = ad117 := (by injection e117)
    replace hx117_0 := (HB.out.cell (World.block_lt_of_cell? w _ hx117_0)).trans hx117_0
    replace p117 := eq_true p117
    replace q117 := eq_true q117
    have p71 : 0 ≤ (x5_1 : Int) := of_decide_eq_true (by first | with_reducible assumption | assumption)
    have q71 : (x5_1 : Int) < ((x3_1.length : Int) : Int) := of_decide_eq_true (by first | with_reducible assumption | assumption)
    obtain ⟨go71, co71, eo71, gb71, gl71, cl71, HG71⟩ := Kd.R_form HO_3.out (by omega)
    (first | cases eo71 | (injection eo71 with ea_ en_ ec_; (first | subst ea_ | (injection ea_ with ea_; subst ea_)); subst ec_; clear en_))
    have GB71 := Aside0.mk gb71
    have GG71 := Aside0.mk HG71
    clear gb71 gl71 HG71
    obtain ⟨hx71_0, hf71_0⟩ := Kd.R_celln false HO_3.out (x5_1 : Int) p71 q71
    replace p71 := eq_true p71
    replace q71 := eq_true q71
    have HP72 := Kd.R_putg HO_3.out (x5_1 : Int) false
    go_wp2_with (first | ((with_reducible refine gate_store (t := 4) (p := 83) rfl ?_); refine store_event (t := 4) (p := 83) (v := ?vo_w73) (w1 := (wr.setCell ⟨go71, (x5_1 : Int).toNat, none⟩ (.bool false))) ?hg ?ho ?hn ?hr ?_; (case ho => rfl); (case hg => rfl); (case hn => rfl); (case hr => first | (go_simp; done) | (go_simp; rfl)); intro w73 hw; have hg : wr.grownBy w73 (some go71) := (by rw [hw]; exact HP72.2); have hp_ : Kd.R Kd.bool 4 w73 w.heap.size (fun _ => True) (.slice (some ⟨go71, 0, none⟩) x3_1.length co71) y119 := (by rw [hw, Ny119.out]; exact HP72.1); clear HP72; replace HO_3 := am_ (hp_); replace HB := am_ ((by rw [hw]; exact below_set (HB.out) GB71.out : Below w.heap.size w w73)); clear hg hw hp_))
    go_roundg k1
    case measure => have := HK1.out; omega
    case rel => exact ⟨(y119), (wrap64 (x5_1 + 1)), (by first | rfl | (simp; done) | (simp [*]; done)), H', ⟨by have := HK1.out; omega⟩, ⟨by exact HO_3.out⟩, ⟨by repeat (first | (with_reducible first | exact HB.out | apply below_alloc | apply pw_below_drewN | apply below_drew1) | exact HB.out)⟩⟩
   subst c16
   have H1 : (if 0 ≤ (wrap64 (x5_1 + 1)) then (if (wrap64 (x5_1 + 1)) < (l0.length : Int) then (if rdOf false l0 (wrap64 (x5_1 + 1)) = true then (if 0 ≤ (wrap64 (x5_1 - 16)) then (if (wrap64 (x5_1 - 16)) < (l0.length : Int) then (if rdOf false l0 (wrap64 (x5_1 - 16)) = true then (if 0 ≤ (wrap64 (x5_1 + 16)) then (if (wrap64 (x5_1 + 16)) < (l0.length : Int) then (if 0 ≤ x5_1 then (if rdOf false l0 x5_1 = true then (if x5_1 < (x3_1.length : Int) then (spec_edge.l0 k1 l0 (x3_1.set (x5_1 : Int).toNat (!(rdOf false l0 (wrap64 (x5_1 + 16))))) 16 (wrap64 (x5_1 + 1))) else (none)) else (if x5_1 < (x3_1.length : Int) then (spec_edge.l0 k1 l0 (x3_1.set (x5_1 : Int).toNat false) 16 (wrap64 (x5_1 + 1))) else (none))) else (none)) else (none)) else (none)) else (if 0 ≤ x5_1 then (if rdOf false l0 x5_1 = true then (if x5_1 < (x3_1.length : Int) then (spec_edge.l0 k1 l0 (x3_1.set (x5_1 : Int).toNat (!false)) 16 (wrap64 (x5_1 + 1))) else (none)) else (if x5_1 < (x3_1.length : Int) then (spec_edge.l0 k1 l0 (x3_1.set (x5_1 : Int).toNat false) 16 (wrap64 (x5_1 + 1))) else (none))) else (none))) else (none)) else (none)) else (if 0 ≤ x5_1 then (if rdOf false l0 x5_1 = true then (if x5_1 < (x3_1.length : Int) then (spec_edge.l0 k1 l0 (x3_1.set (x5_1 : Int).toNat (!false)) 16 (wrap64 (x5_1 + 1))) else (none)) else (if x5_1 < (x3_1.length : Int) then (spec_edge.l0 k1 l0 (x3_1.set (x5_1 : Int).toNat false) 16 (wrap64 (x5_1 + 1))) else (none))) else (none))) else (none)) else (none)) = some r := by rw [if_pos rfl] at H; exact H
   clear H
   have H := H1
   clear H1
   obtain ⟨ji17, hji17⟩ : ∃ j_ : Int, (wrap64 (x5_1 + 1)) = j_ := ⟨_, rfl⟩
   replace H : (if 0 ≤ (ji17) then (if (ji17) < (l0.length : Int) then (if rdOf false l0 (ji17) = true then (if 0 ≤ (wrap64 (x5_1 - 16)) then (if (wrap64 (x5_1 - 16)) < (l0.length : Int) then (if rdOf false l0 (wrap64 (x5_1 - 16)) = true then (if 0 ≤ (wrap64 (x5_1 + 16)) then (if (wrap64 (x5_1 + 16)) < (l0.length : Int) then (if 0 ≤ x5_1 then (if rdOf false l0 x5_1 = true then (if x5_1 < (x3_1.length : Int) then (spec_edge.l0 k1 l0 (x3_1.set (x5_1 : Int).toNat (!(rdOf false l0 (wrap64 (x5_1 + 16))))) 16 ji17) else (none)) else (if x5_1 < (x3_1.length : Int) then (spec_edge.l0 k1 l0 (x3_1.set (x5_1 : Int).toNat false) 16 ji17) else (none))) else (none)) else (none)) else (none)) else (if 0 ≤ x5_1 then (if rdOf false l0 x5_1 = true then (if x5_1 < (x3_1.length : Int) then (spec_edge.l0 k1 l0 (x3_1.set (x5_1 : Int).toNat (!false)) 16 ji17) else (none)) else (if x5_1 < (x3_1.length : Int) then (spec_edge.l0 k1 l0 (x3_1.set (x5_1 : Int).toNat false) 16 ji17) else (none))) else (none))) else (none)) else (none)) else (if 0 ≤ x5_1 then (if rdOf false l0 x5_1 = true then (if x5_1 < (x3_1.length : Int) then (spec_edge.l0 k1 l0 (x3_1.set (x5_1 : Int).toNat (!false)) 16 ji17) else (none)) else (if x5_1 < (x3_1.length : Int) then (spec_edge.l0 k1 l0 (x3_1.set (x5_1 : Int).toNat false) 16 ji17) else (none))) else (none))) else (none)) else (none)) = some r := by first | (rw [hji17] at H; exact H) | (simp only [hji17] at H ⊢; exact H)
   have hji17w : (IntKind.i64.wrap (x5_1 + 1)) = ji17 := (i64_w _).trans hji17
   by_cases c18 : 0 ≤ (ji17)
   rotate_left
   ·
    rw [if_neg c18] at H
    exact absurd H (by simp)
   rw [if_pos c18] at H
   have c18b0 : decide (0 ≤ (ji17)) = true := decide_eq_true c18
   clear c18
   by_cases c19 : (ji17) < (l0.length : Int)
   rotate_left
   ·
    rw [if_neg c19] at H
    exact absurd H (by simp)
   rw [if_pos c19] at H
   have c19b0 : decide ((ji17) < (l0.length : Int)) = true := decide_eq_true c19
   clear c19
   obtain ⟨bq20, hbq20⟩ : ∃ b_ : Bool, b_ = (rdOf false l0 (ji17)) := ⟨_, rfl⟩
   replace H : (if bq20 = true then (if 0 ≤ (wrap64 (x5_1 - 16)) then (if (wrap64 (x5_1 - 16)) < (l0.length : Int) then (if rdOf false l0 (wrap64 (x5_1 - 16)) = true then (if 0 ≤ (wrap64 (x5_1 + 16)) then (if (wrap64 (x5_1 + 16)) < (l0.length : Int) then (if 0 ≤ x5_1 then (if rdOf false l0 x5_1 = true then (if x5_1 < (x3_1.length : Int) then (spec_edge.l0 k1 l0 (x3_1.set (x5_1 : Int).toNat (!(rdOf false l0 (wrap64 (x5_1 + 16))))) 16 ji17) else (none)) else (if x5_1 < (x3_1.length : Int) then (spec_edge.l0 k1 l0 (x3_1.set (x5_1 : Int).toNat false) 16 ji17) else (none))) else (none)) else (none)) else (none)) else (if 0 ≤ x5_1 then (if rdOf false l0 x5_1 = true then (if x5_1 < (x3_1.length : Int) then (spec_edge.l0 k1 l0 (x3_1.set (x5_1 : Int).toNat (!false)) 16 ji17) else (none)) else (if x5_1 < (x3_1.length : Int) then (spec_edge.l0 k1 l0 (x3_1.set (x5_1 : Int).toNat false) 16 ji17) else (none))) else (none))) else (none)) else (none)) else (if 0 ≤ x5_1 then (if rdOf false l0 x5_1 = true then (if x5_1 < (x3_1.length : Int) then (spec_edge.l0 k1 l0 (x3_1.set (x5_1 : Int).toNat (!false)) 16 ji17) else (none)) else (if x5_1 < (x3_1.length : Int) then (spec_edge.l0 k1 l0 (x3_1.set (x5_1 : Int).toNat false) 16 ji17) else (none))) else (none))) = some r := by rw [← hbq20] at H; exact H
   have Nbq20 := Aside0.mk hbq20
   clear hbq20
   by_cases c21 : bq20 = true
   rotate_left
   ·
    replace c21 := Bool.eq_false_iff.mpr c21
    subst c21
    have H1 : (if 0 ≤ x5_1 then (if rdOf false l0 x5_1 = true then (if x5_1 < (x3_1.length : Int) then (spec_edge.l0 k1 l0 (x3_1.set (x5_1 : Int).toNat (!false)) 16 ji17) else (none)) else (if x5_1 < (x3_1.length : Int) then (spec_edge.l0 k1 l0 (x3_1.set (x5_1 : Int).toNat false) 16 ji17) else (none))) else (none)) = some r := by rw [if_neg (show ¬ (false = true) by decide)] at H; exact H
    clear H
    have H := H1
    clear H1
    by_cases c52 : 0 ≤ x5_1
    rotate_left
    ·
     rw [if_neg c52] at H
     exact absurd H (by simp)
    rw [if_pos c52] at H
    have c52b0 : decide (0 ≤ x5_1) = true := decide_eq_true c52
    clear c52
    obtain ⟨bq53, hbq53⟩ : ∃ b_ : Bool, b_ = (rdOf false l0 x5_1) := ⟨_, rfl⟩
    replace H : (if bq53 = true then (if x5_1 < (x3_1.length : Int) then (spec_edge.l0 k1 l0 (x3_1.set (x5_1 : Int).toNat (!false)) 16 ji17) else (none)) else (if x5_1 < (x3_1.length : Int) then (spec_edge.l0 k1 l0 (x3_1.set (x5_1 : Int).toNat false) 16 ji17) else (none))) = some r := by rw [← hbq53] at H; exact H
    have Nbq53 := Aside0.mk hbq53
    clear hbq53
    by_cases c54 : bq53 = true
    ·
     subst c54
     have H1 : (if x5_1 < (x3_1.length : Int) then (spec_edge.l0 k1 l0 (x3_1.set (x5_1 : Int).toNat (!false)) 16 ji17) else (none)) = some r := by rw [if_pos rfl] at H; exact H
     clear H
     have H := H1
     clear H1
     by_cases c55 : x5_1 < (x3_1.length : Int)
     rotate_left
     ·
      rw [if_neg c55] at H
      exact absurd H (by simp)
     rw [if_pos c55] at H
     have c55b0 : decide (x5_1 < (x3_1.length : Int)) = true := decide_eq_true c55
     clear c55
     obtain ⟨y115, hy115⟩ : ∃ y_ : List Bool, y_ = (x3_1.set (x5_1 : Int).toNat (!false)) := ⟨_, rfl⟩
     replace H : (spec_edge.l0 k1 l0 y115 16 ji17) = some r := by first | (rw [hy115]; with_reducible exact H) | (have H2_ := (Option.bind_some _ _).symm.trans H; rw [hy115]; with_reducible exact H2_) | (have H2_ := (Option.bind_some _ _).symm.trans H; with_reducible exact H2_) | with_reducible exact H | (rw [hy115]; exact H) | exact H
     have Ny115 := Aside0.mk hy115
     clear hy115
     have H' := Aside0.mk H
     clear H
     have p104 : 0 ≤ ((ji12) : Int) := of_decide_eq_true (by first | with_reducible assumption | assumption)
     have q104 : (ji12) < (l0.length : Int) := of_decide_eq_true (by first | with_reducible assumption | assumption)
     obtain ⟨ad104, e104, hx104_0⟩ := Kd.at_bool HR0.out (ji12) p104 q104
     (try rw [← Nbq15.out] at hx104_0)
     (try rw [← Nbq20.out] at hx104_0)
     (try rw [← Nbq53.out] at hx104_0)
     cases e104
     replace hx104_0 := (HB.out.cell (World.block_lt_of_cell? w _ hx104_0)).trans hx104_0
     replace p104 := eq_true p104
     replace q104 := eq_true q104
     have p105 : 0 ≤ ((ji17) : Int) := of_decide_eq_true (by first | with_reducible assumption | assumption)
     have q105 : (ji17) < (l0.length : Int) := of_decide_eq_true (by first | with_reducible assumption | assumption)
     obtain ⟨ad105, e105, hx105_0⟩ := Kd.at_bool HR0.out (ji17) p105 q105
     (try rw [← Nbq15.out] at hx105_0)
     (try rw [← Nbq20.out] at hx105_0)
     (try rw [← Nbq53.out] at hx105_0)
     obtain rfl : ad104 = ad105 := (by injection e105)
     replace hx105_0 := (HB.out.cell (World.block_lt_of_cell? w _ hx105_0)).trans hx105_0
     replace p105 := eq_true p105
     replace q105 := eq_true q105
     have p114 : 0 ≤ (x5_1 : Int) := of_decide_eq_true (by first | with_reducible assumption | assumption)
     have q114 : x5_1 < (l0.length : Int) := of_decide_eq_true (by first | with_reducible assumption | assumption)
     obtain ⟨ad114, e114, hx114_0⟩ := Kd.at_bool HR0.out x5_1 p114 q114
     (try rw [← Nbq15.out] at hx114_0)
     (try rw [← Nbq20.out] at hx114_0)
     (try rw [← Nbq53.out] at hx114_0)
     obtain rfl : ad104 = ad114 := (by injection e114)
     replace hx114_0 := (HB.out.cell (World.block_lt_of_cell? w _ hx114_0)).trans hx114_0
     replace p114 := eq_true p114
     replace q114 := eq_true q114
     have p56 : 0 ≤ (x5_1 : Int) := of_decide_eq_true (by first | with_reducible assumption | assumption)
     have q56 : (x5_1 : Int) < ((x3_1.length : Int) : Int) := of_decide_eq_true (by first | with_reducible assumption | assumption)
     obtain ⟨go56, co56, eo56, gb56, gl56, cl56, HG56⟩ := Kd.R_form HO_3.out (by omega)
     (first | cases eo56 | (injection eo56 with ea_ en_ ec_; (first | subst ea_ | (injection ea_ with ea_; subst ea_)); subst ec_; clear en_))
     have GB56 := Aside0.mk gb56
     have GG56 := Aside0.mk HG56
     clear gb56 gl56 HG56
     obtain ⟨hx56_0, hf56_0⟩ := Kd.R_celln false HO_3.out (x5_1 : Int) p56 q56
     replace p56 := eq_true p56
     replace q56 := eq_true q56
     have HP57 := Kd.R_putg HO_3.out (x5_1 : Int) (!false)
     go_wp2_with (first | ((with_reducible refine gate_store (t := 4) (p := 83) rfl ?_); refine store_event (t := 4) (p := 83) (v := ?vo_w58) (w1 := (wr.setCell ⟨go56, (x5_1 : Int).toNat, none⟩ (.bool (!false)))) ?hg ?ho ?hn ?hr ?_; (case ho => rfl); (case hg => rfl); (case hn => rfl); (case hr => first | (go_simp; done) | (go_simp; rfl)); intro w58 hw; have hg : wr.grownBy w58 (some go56) := (by rw [hw]; exact HP57.2); have hp_ : Kd.R Kd.bool 4 w58 w.heap.size (fun _ => True) (.slice (some ⟨go56, 0, none⟩) x3_1.length co56) y115 := (by rw [hw, Ny115.out]; exact HP57.1); clear HP57; replace HO_3 := am_ (hp_); replace HB := am_ ((by rw [hw]; exact below_set (HB.out) GB56.out : Below w.heap.size w w58)); clear hg hw hp_))
     go_roundg k1
     case measure => have := HK1.out; omega
     case rel => exact ⟨(y115), (ji17), (by first | rfl | (simp; done) | (simp only [← hji17] <;> (first | rfl | simp)) | (simp [*]; done)), H', ⟨by have := HK1.out; omega⟩, ⟨by exact HO_3.out⟩, ⟨by repeat (first | (with_reducible first | exact HB.out | apply below_alloc | apply pw_below_drewN | apply below_drew1) | exact HB.out)⟩⟩
    replace c54 := Bool.eq_false_iff.mpr c54
    subst c54
    have H1 : (if x5_1 < (x3_1.length : Int) then (spec_edge.l0 k1 l0 (x3_1.set (x5_1 : Int).toNat false) 16 ji17) else (none)) = some r := by rw [if_neg (show ¬ (false = true) by decide)] at H; exact H
    clear H
    have H := H1
    clear H1
    by_cases c59 : x5_1 < (x3_1.length : Int)
    rotate_left
    ·
     rw [if_neg c59] at H
     exact absurd H (by simp)
    rw [if_pos c59] at H
    have c59b0 : decide (x5_1 < (x3_1.length : Int)) = true := decide_eq_true c59
    clear c59
    obtain ⟨y116, hy116⟩ : ∃ y_ : List Bool, y_ = (x3_1.set (x5_1 : Int).toNat false) := ⟨_, rfl⟩
    replace H : (spec_edge.l0 k1 l0 y116 16 ji17) = some r := by first | (rw [hy116]; with_reducible exact H) | (have H2_ := (Option.bind_some _ _).symm.trans H; rw [hy116]; with_reducible exact H2_) | (have H2_ := (Option.bind_some _ _).symm.trans H; with_reducible exact H2_) | with_reducible exact H | (rw [hy116]; exact H) | exact H
    have Ny116 := Aside0.mk hy116
    clear hy116
    have H' := Aside0.mk H
    clear H
    have p104 : 0 ≤ ((ji12) : Int) := of_decide_eq_true (by first | with_reducible assumption | assumption)
    have q104 : (ji12) < (l0.length : Int) := of_decide_eq_true (by first | with_reducible assumption | assumption)
    obtain ⟨ad104, e104, hx104_0⟩ := Kd.at_bool HR0.out (ji12) p104 q104
    (try rw [← Nbq15.out] at hx104_0)
    (try rw [← Nbq20.out] at hx104_0)
    (try rw [← Nbq53.out] at hx104_0)
    cases e104
    replace hx104_0 := (HB.out.cell (World.block_lt_of_cell? w _ hx104_0)).trans hx104_0
    replace p104 := eq_true p104
    replace q104 := eq_true q104
    have p105 : 0 ≤ ((ji17) : Int) := of_decide_eq_true (by first | with_reducible assumption | assumption)
    have q105 : (ji17) < (l0.length : Int) := of_decide_eq_true (by first | with_reducible assumption | assumption)
    obtain ⟨ad105, e105, hx105_0⟩ := Kd.at_bool HR0.out (ji17) p105 q105
    (try rw [← Nbq15.out] at hx105_0)
    (try rw [← Nbq20.out] at hx105_0)
    (try rw [← Nbq53.out] at hx105_0)
    obtain rfl : ad104 = ad105 := (by injection e105)
    replace hx105_0 := (HB.out.cell (World.block_lt_of_cell? w _ hx105_0)).trans hx105_0
    replace p105 := eq_true p105
    replace q105 := eq_true q105
    have p114 : 0 ≤ (x5_1 : Int) := of_decide_eq_true (by first | with_reducible assumption | assumption)
    have q114 : x5_1 < (l0.length : Int) := of_decide_eq_true (by first | with_reducible assumption | assumption)
    obtain ⟨ad114, e114, hx114_0⟩ := Kd.at_bool HR0.out x5_1 p114 q114
    (try rw [← Nbq15.out] at hx114_0)
    (try rw [← Nbq20.out] at hx114_0)
    (try rw [← Nbq53.out] at hx114_0)
    obtain rfl : ad104 = ad114 := (by injection e114)
    replace hx114_0 := (HB.out.cell (World.block_lt_of_cell? w _ hx114_0)).trans hx114_0
    replace p114 := eq_true p114
    replace q114 := eq_true q114
    have p60 : 0 ≤ (x5_1 : Int) := of_decide_eq_true (by first | with_reducible assumption | assumption)
    have q60 : (x5_1 : Int) < ((x3_1.length : Int) : Int) := of_decide_eq_true (by first | with_reducible assumption | assumption)
    obtain ⟨go60, co60, eo60, gb60, gl60, cl60, HG60⟩ := Kd.R_form HO_3.out (by omega)
    (first | cases eo60 | (injection eo60 with ea_ en_ ec_; (first | subst ea_ | (injection ea_ with ea_; subst ea_)); subst ec_; clear en_))
    have GB60 := Aside0.mk gb60
    have GG60 := Aside0.mk HG60
    clear gb60 gl60 HG60
    obtain ⟨hx60_0, hf60_0⟩ := Kd.R_celln false HO_3.out (x5_1 : Int) p60 q60
    replace p60 := eq_true p60
    replace q60 := eq_true q60
    have HP61 := Kd.R_putg HO_3.out (x5_1 : Int) false
    go_wp2_with (first | ((with_reducible refine gate_store (t := 4) (p := 83) rfl ?_); refine store_event (t := 4) (p := 83) (v := ?vo_w62) (w1 := (wr.setCell ⟨go60, (x5_1 : Int).toNat, none⟩ (.bool false))) ?hg ?ho ?hn ?hr ?_; (case ho => rfl); (case hg => rfl); (case hn => rfl); (case hr => first | (go_simp; done) | (go_simp; rfl)); intro w62 hw; have hg : wr.grownBy w62 (some go60) := (by rw [hw]; exact HP61.2); have hp_ : Kd.R Kd.bool 4 w62 w.heap.size (fun _ => True) (.slice (some ⟨go60, 0, none⟩) x3_1.length co60) y116 := (by rw [hw, Ny116.out]; exact HP61.1); clear HP61; replace HO_3 := am_ (hp_); replace HB := am_ ((by rw [hw]; exact below_set (HB.out) GB60.out : Below w.heap.size w w62)); clear hg hw hp_))
    go_roundg k1
    case measure => have := HK1.out; omega
    case rel => exact ⟨(y116), (ji17), (by first | rfl | (simp; done) | (simp only [← hji17] <;> (first | rfl | simp)) | (simp [*]; done)), H', ⟨by have := HK1.out; omega⟩, ⟨by exact HO_3.out⟩, ⟨by repeat (first | (with_reducible first | exact HB.out | apply below_alloc | apply pw_below_drewN | apply below_drew1) | exact HB.out)⟩⟩
   subst c21
   have H1 : (if 0 ≤ (wrap64 (x5_1 - 16)) then (if (wrap64 (x5_1 - 16)) < (l0.length : Int) then (if rdOf false l0 (wrap64 (x5_1 - 16)) = true then (if 0 ≤ (wrap64 (x5_1 + 16)) then (if (wrap64 (x5_1 + 16)) < (l0.length : Int) then (if 0 ≤ x5_1 then (if rdOf false l0 x5_1 = true then (if x5_1 < (x3_1.length : Int) then (spec_edge.l0 k1 l0 (x3_1.set (x5_1 : Int).toNat (!(rdOf false l0 (wrap64 (x5_1 + 16))))) 16 ji17) else (none)) else (if x5_1 < (x3_1.length : Int) then (spec_edge.l0 k1 l0 (x3_1.set (x5_1 : Int).toNat false) 16 ji17) else (none))) else (none)) else (none)) else (none)) else (if 0 ≤ x5_1 then (if rdOf false l0 x5_1 = true then (if x5_1 < (x3_1.length : Int) then (spec_edge.l0 k1 l0 (x3_1.set (x5_1 : Int).toNat (!false)) 16 ji17) else (none)) else (if x5_1 < (x3_1.length : Int) then (spec_edge.l0 k1 l0 (x3_1.set (x5_1 : Int).toNat false) 16 ji17) else (none))) else (none))) else (none)) else (none)) = some r := by rw [if_pos rfl] at H; exact H
   clear H
   have H := H1
   clear H1
   obtain ⟨ji22, hji22⟩ : ∃ j_ : Int, (wrap64 (x5_1 - 16)) = j_ := ⟨_, rfl⟩
   replace H : (if 0 ≤ (ji22) then (if (ji22) < (l0.length : Int) then (if rdOf false l0 (ji22) = true then (if 0 ≤ (wrap64 (x5_1 + 16)) then (if (wrap64 (x5_1 + 16)) < (l0.length : Int) then (if 0 ≤ x5_1 then (if rdOf false l0 x5_1 = true then (if x5_1 < (x3_1.length : Int) then (spec_edge.l0 k1 l0 (x3_1.set (x5_1 : Int).toNat (!(rdOf false l0 (wrap64 (x5_1 + 16))))) 16 ji17) else (none)) else (if x5_1 < (x3_1.length : Int) then (spec_edge.l0 k1 l0 (x3_1.set (x5_1 : Int).toNat false) 16 ji17) else (none))) else (none)) else (none)) else (none)) else (if 0 ≤ x5_1 then (if rdOf false l0 x5_1 = true then (if x5_1 < (x3_1.length : Int) then (spec_edge.l0 k1 l0 (x3_1.set (x5_1 : Int).toNat (!false)) 16 ji17) else (none)) else (if x5_1 < (x3_1.length : Int) then (spec_edge.l0 k1 l0 (x3_1.set (x5_1 : Int).toNat false) 16 ji17) else (none))) else (none))) else (none)) else (none)) = some r := by first | (rw [hji22] at H; exact H) | (simp only [hji22] at H ⊢; exact H)
   have hji22w : (IntKind.i64.wrap (x5_1 - 16)) = ji22 := (i64_w _).trans hji22
   by_cases c23 : 0 ≤ (ji22)
   rotate_left
   ·
    rw [if_neg c23] at H
    exact absurd H (by simp)
   rw [if_pos c23] at H
   have c23b0 : decide (0 ≤ (ji22)) = true := decide_eq_true c23
   clear c23
   by_cases c24 : (ji22) < (l0.length : Int)
   rotate_left
   ·
    rw [if_neg c24] at H
    exact absurd H (by simp)
   rw [if_pos c24] at H
   have c24b0 : decide ((ji22) < (l0.length : Int)) = true := decide_eq_true c24
   clear c24
   obtain ⟨bq25, hbq25⟩ : ∃ b_ : Bool, b_ = (rdOf false l0 (ji22)) := ⟨_, rfl⟩
   replace H : (if bq25 = true then (if 0 ≤ (wrap64 (x5_1 + 16)) then (if (wrap64 (x5_1 + 16)) < (l0.length : Int) then (if 0 ≤ x5_1 then (if rdOf false l0 x5_1 = true then (if x5_1 < (x3_1.length : Int) then (spec_edge.l0 k1 l0 (x3_1.set (x5_1 : Int).toNat (!(rdOf false l0 (wrap64 (x5_1 + 16))))) 16 ji17) else (none)) else (if x5_1 < (x3_1.length : Int) then (spec_edge.l0 k1 l0 (x3_1.set (x5_1 : Int).toNat false) 16 ji17) else (none))) else (none)) else (none)) else (none)) else (if 0 ≤ x5_1 then (if rdOf false l0 x5_1 = true then (if x5_1 < (x3_1.length : Int) then (spec_edge.l0 k1 l0 (x3_1.set (x5_1 : Int).toNat (!false)) 16 ji17) else (none)) else (if x5_1 < (x3_1.length : Int) then (spec_edge.l0 k1 l0 (x3_1.set (x5_1 : Int).toNat false) 16 ji17) else (none))) else (none))) = some r := by rw [← hbq25] at H; exact H
   have Nbq25 := Aside0.mk hbq25
   clear hbq25
   by_cases c26 : bq25 = true
   ·
    subst c26
    have H1 : (if 0 ≤ (wrap64 (x5_1 + 16)) then (if (wrap64 (x5_1 + 16)) < (l0.length : Int) then (if 0 ≤ x5_1 then (if rdOf false l0 x5_1 = true then (if x5_1 < (x3_1.length : Int) then (spec_edge.l0 k1 l0 (x3_1.set (x5_1 : Int).toNat (!(rdOf false l0 (wrap64 (x5_1 + 16))))) 16 ji17) else (none)) else (if x5_1 < (x3_1.length : Int) then (spec_edge.l0 k1 l0 (x3_1.set (x5_1 : Int).toNat false) 16 ji17) else (none))) else (none)) else (none)) else (none)) = some r := by rw [if_pos rfl] at H; exact H
    clear H
    have H := H1
    clear H1
    obtain ⟨ji27, hji27⟩ : ∃ j_ : Int, (wrap64 (x5_1 + 16)) = j_ := ⟨_, rfl⟩
    replace H : (if 0 ≤ (ji27) then (if (ji27) < (l0.length : Int) then (if 0 ≤ x5_1 then (if rdOf false l0 x5_1 = true then (if x5_1 < (x3_1.length : Int) then (spec_edge.l0 k1 l0 (x3_1.set (x5_1 : Int).toNat (!(rdOf false l0 (ji27)))) 16 ji17) else (none)) else (if x5_1 < (x3_1.length : Int) then (spec_edge.l0 k1 l0 (x3_1.set (x5_1 : Int).toNat false) 16 ji17) else (none))) else (none)) else (none)) else (none)) = some r := by first | (rw [hji27] at H; exact H) | (simp only [hji27] at H ⊢; exact H)
    have hji27w : (IntKind.i64.wrap (x5_1 + 16)) = ji27 := (i64_w _).trans hji27
    by_cases c28 : 0 ≤ (ji27)
    rotate_left
    ·
     rw [if_neg c28] at H
     exact absurd H (by simp)
    rw [if_pos c28] at H
    have c28b0 : decide (0 ≤ (ji27)) = true := decide_eq_true c28
    clear c28
    by_cases c29 : (ji27) < (l0.length : Int)
    rotate_left
    ·
     rw [if_neg c29] at H
     exact absurd H (by simp)
    rw [if_pos c29] at H
    have c29b0 : decide ((ji27) < (l0.length : Int)) = true := decide_eq_true c29
    clear c29
    by_cases c30 : 0 ≤ x5_1
    rotate_left
    ·
     rw [if_neg c30] at H
     exact absurd H (by simp)
    rw [if_pos c30] at H
    have c30b0 : decide (0 ≤ x5_1) = true := decide_eq_true c30
    clear c30
    obtain ⟨bq31, hbq31⟩ : ∃ b_ : Bool, b_ = (rdOf false l0 x5_1) := ⟨_, rfl⟩
    replace H : (if bq31 = true then (if x5_1 < (x3_1.length : Int) then (spec_edge.l0 k1 l0 (x3_1.set (x5_1 : Int).toNat (!(rdOf false l0 (ji27)))) 16 ji17) else (none)) else (if x5_1 < (x3_1.length : Int) then (spec_edge.l0 k1 l0 (x3_1.set (x5_1 : Int).toNat false) 16 ji17) else (none))) = some r := by rw [← hbq31] at H; exact H
    have Nbq31 := Aside0.mk hbq31
    clear hbq31
    by_cases c32 : bq31 = true
    ·
     subst c32
     have H1 : (if x5_1 < (x3_1.length : Int) then (spec_edge.l0 k1 l0 (x3_1.set (x5_1 : Int).toNat (!(rdOf false l0 (ji27)))) 16 ji17) else (none)) = some r := by rw [if_pos rfl] at H; exact H
     clear H
     have H := H1
     clear H1
     by_cases c33 : x5_1 < (x3_1.length : Int)
     rotate_left
     ·
      rw [if_neg c33] at H
      exact absurd H (by simp)
     rw [if_pos c33] at H
     have c33b0 : decide (x5_1 < (x3_1.length : Int)) = true := decide_eq_true c33
     clear c33
     obtain ⟨y109, hy109⟩ : ∃ y_ : List Bool, y_ = (x3_1.set (x5_1 : Int).toNat (!(rdOf false l0 (ji27)))) := ⟨_, rfl⟩
     replace H : (spec_edge.l0 k1 l0 y109 16 ji17) = some r := by first | (rw [hy109]; with_reducible exact H) | (have H2_ := (Option.bind_some _ _).symm.trans H; rw [hy109]; with_reducible exact H2_) | (have H2_ := (Option.bind_some _ _).symm.trans H; with_reducible exact H2_) | with_reducible exact H | (rw [hy109]; exact H) | exact H
     have Ny109 := Aside0.mk hy109
     clear hy109
     have H' := Aside0.mk H
     clear H
     have p104 : 0 ≤ ((ji12) : Int) := of_decide_eq_true (by first | with_reducible assumption | assumption)
     have q104 : (ji12) < (l0.length : Int) := of_decide_eq_true (by first | with_reducible assumption | assumption)
     obtain ⟨ad104, e104, hx104_0⟩ := Kd.at_bool HR0.out (ji12) p104 q104
     (try rw [← Nbq15.out] at hx104_0)
     (try rw [← Nbq20.out] at hx104_0)
     (try rw [← Nbq25.out] at hx104_0)
     (try rw [← Nbq31.out] at hx104_0)
     cases e104
     replace hx104_0 := (HB.out.cell (World.block_lt_of_cell? w _ hx104_0)).trans hx104_0
     replace p104 := eq_true p104
     replace q104 := eq_true q104
     have p105 : 0 ≤ ((ji17) : Int) := of_decide_eq_true (by first | with_reducible assumption | assumption)
     have q105 : (ji17) < (l0.length : Int) := of_decide_eq_true (by first | with_reducible assumption | assumption)
     obtain ⟨ad105, e105, hx105_0⟩ := Kd.at_bool HR0.out (ji17) p105 q105
     (try rw [← Nbq15.out] at hx105_0)
     (try rw [← Nbq20.out] at hx105_0)
     (try rw [← Nbq25.out] at hx105_0)
     (try rw [← Nbq31.out] at hx105_0)
     obtain rfl : ad104 = ad105 := (by injection e105)
     replace hx105_0 := (HB.out.cell (World.block_lt_of_cell? w _ hx105_0)).trans hx105_0
     replace p105 := eq_true p105
     replace q105 := eq_true q105
     have p106 : 0 ≤ ((ji22) : Int) := of_decide_eq_true (by first | with_reducible assumption | assumption)
     have q106 : (ji22) < (l0.length : Int) := of_decide_eq_true (by first | with_reducible assumption | assumption)
     obtain ⟨ad106, e106, hx106_0⟩ := Kd.at_bool HR0.out (ji22) p106 q106
     (try rw [← Nbq15.out] at hx106_0)
     (try rw [← Nbq20.out] at hx106_0)
     (try rw [← Nbq25.out] at hx106_0)
     (try rw [← Nbq31.out] at hx106_0)
     obtain rfl : ad104 = ad106 := (by injection e106)
     replace hx106_0 := (HB.out.cell (World.block_lt_of_cell? w _ hx106_0)).trans hx106_0
     replace p106 := eq_true p106
     replace q106 := eq_true q106
     have p107 : 0 ≤ ((ji27) : Int) := of_decide_eq_true (by first | with_reducible assumption | assumption)
     have q107 : (ji27) < (l0.length : Int) := of_decide_eq_true (by first | with_reducible assumption | assumption)
     obtain ⟨ad107, e107, hx107_0⟩ := Kd.at_bool HR0.out (ji27) p107 q107
     (try rw [← Nbq15.out] at hx107_0)
     (try rw [← Nbq20.out] at hx107_0)
     (try rw [← Nbq25.out] at hx107_0)
     (try rw [← Nbq31.out] at hx107_0)
     obtain rfl : ad104 = ad107 := (by injection e107)
     replace hx107_0 := (HB.out.cell (World.block_lt_of_cell? w _ hx107_0)).trans hx107_0
     replace p107 := eq_true p107
     replace q107 := eq_true q107
     have p108 : 0 ≤ (x5_1 : Int) := of_decide_eq_true (by first | with_reducible assumption | assumption)
     have q108 : x5_1 < (l0.length : Int) := of_decide_eq_true (by first | with_reducible assumption | assumption)
     obtain ⟨ad108, e108, hx108_0⟩ := Kd.at_bool HR0.out x5_1 p108 q108
     (try rw [← Nbq15.out] at hx108_0)
     (try rw [← Nbq20.out] at hx108_0)
     (try rw [← Nbq25.out] at hx108_0)
     (try rw [← Nbq31.out] at hx108_0)
     obtain rfl : ad104 = ad108 := (by injection e108)
     replace hx108_0 := (HB.out.cell (World.block_lt_of_cell? w _ hx108_0)).trans hx108_0
     replace p108 := eq_true p108
     replace q108 := eq_true q108
     have p34 : 0 ≤ (x5_1 : Int) := of_decide_eq_true (by first | with_reducible assumption | assumption)
     have q34 : (x5_1 : Int) < ((x3_1.length : Int) : Int) := of_decide_eq_true (by first | with_reducible assumption | assumption)
     obtain ⟨go34, co34, eo34, gb34, gl34, cl34, HG34⟩ := Kd.R_form HO_3.out (by omega)
     (first | cases eo34 | (injection eo34 with ea_ en_ ec_; (first | subst ea_ | (injection ea_ with ea_; subst ea_)); subst ec_; clear en_))
     have GB34 := Aside0.mk gb34
     have GG34 := Aside0.mk HG34
     clear gb34 gl34 HG34
     obtain ⟨hx34_0, hf34_0⟩ := Kd.R_celln false HO_3.out (x5_1 : Int) p34 q34
     replace p34 := eq_true p34
     replace q34 := eq_true q34
     have HP35 := Kd.R_putg HO_3.out (x5_1 : Int) (!(rdOf false l0 (ji27)))
     go_wp2_with (first | ((with_reducible refine gate_store (t := 4) (p := 83) rfl ?_); refine store_event (t := 4) (p := 83) (v := ?vo_w36) (w1 := (wr.setCell ⟨go34, (x5_1 : Int).toNat, none⟩ (.bool (!(rdOf false l0 (ji27)))))) ?hg ?ho ?hn ?hr ?_; (case ho => rfl); (case hg => rfl); (case hn => rfl); (case hr => first | (go_simp; done) | (go_simp; rfl)); intro w36 hw; have hg : wr.grownBy w36 (some go34) := (by rw [hw]; exact HP35.2); have hp_ : Kd.R Kd.bool 4 w36 w.heap.size (fun _ => True) (.slice (some ⟨go34, 0, none⟩) x3_1.length co34) y109 := (by rw [hw, Ny109.out]; exact HP35.1); clear HP35; replace HO_3 := am_ (hp_); replace HB := am_ ((by rw [hw]; exact below_set (HB.out) GB34.out : Below w.heap.size w w36)); clear hg hw hp_))
     go_roundg k1
     case measure => have := HK1.out; omega
     case rel => exact ⟨(y109), (ji17), (by first | rfl | (simp; done) | (simp only [← hji17] <;> (first | rfl | simp)) | (simp [*]; done)), H', ⟨by have := HK1.out; omega⟩, ⟨by exact HO_3.out⟩, ⟨by repeat (first | (with_reducible first | exact HB.out | apply below_alloc | apply pw_below_drewN | apply below_drew1) | exact HB.out)⟩⟩
    replace c32 := Bool.eq_false_iff.mpr c32
    subst c32
    have H1 : (if x5_1 < (x3_1.length : Int) then (spec_edge.l0 k1 l0 (x3_1.set (x5_1 : Int).toNat false) 16 ji17) else (none)) = some r := by rw [if_neg (show ¬ (false = true) by decide)] at H; exact H
    clear H
    have H := H1
    clear H1
    by_cases c37 : x5_1 < (x3_1.length : Int)
    rotate_left
    ·
     rw [if_neg c37] at H
     exact absurd H (by simp)
    rw [if_pos c37] at H
    have c37b0 : decide (x5_1 < (x3_1.length : Int)) = true := decide_eq_true c37
    clear c37
    obtain ⟨y110, hy110⟩ : ∃ y_ : List Bool, y_ = (x3_1.set (x5_1 : Int).toNat false) := ⟨_, rfl⟩
    replace H : (spec_edge.l0 k1 l0 y110 16 ji17) = some r := by first | (rw [hy110]; with_reducible exact H) | (have H2_ := (Option.bind_some _ _).symm.trans H; rw [hy110]; with_reducible exact H2_) | (have H2_ := (Option.bind_some _ _).symm.trans H; with_reducible exact H2_) | with_reducible exact H | (rw [hy110]; exact H) | exact H
    have Ny110 := Aside0.mk hy110
    clear hy110
    have H' := Aside0.mk H
    clear H
    have p104 : 0 ≤ ((ji12) : Int) := of_decide_eq_true (by first | with_reducible assumption | assumption)
    have q104 : (ji12) < (l0.length : Int) := of_decide_eq_true (by first | with_reducible assumption | assumption)
    obtain ⟨ad104, e104, hx104_0⟩ := Kd.at_bool HR0.out (ji12) p104 q104
    (try rw [← Nbq15.out] at hx104_0)
    (try rw [← Nbq20.out] at hx104_0)
    (try rw [← Nbq25.out] at hx104_0)
    (try rw [← Nbq31.out] at hx104_0)
    cases e104
    replace hx104_0 := (HB.out.cell (World.block_lt_of_cell? w _ hx104_0)).trans hx104_0
    replace p104 := eq_true p104
    replace q104 := eq_true q104
    have p105 : 0 ≤ ((ji17) : Int) := of_decide_eq_true (by first | with_reducible assumption | assumption)
    have q105 : (ji17) < (l0.length : Int) := of_decide_eq_true (by first | with_reducible assumption | assumption)
    obtain ⟨ad105, e105, hx105_0⟩ := Kd.at_bool HR0.out (ji17) p105 q105
    (try rw [← Nbq15.out] at hx105_0)
    (try rw [← Nbq20.out] at hx105_0)
    (try rw [← Nbq25.out] at hx105_0)
    (try rw [← Nbq31.out] at hx105_0)
    obtain rfl : ad104 = ad105 := (by injection e105)
    replace hx105_0 := (HB.out.cell (World.block_lt_of_cell? w _ hx105_0)).trans hx105_0
    replace p105 := eq_true p105
    replace q105 := eq_true q105
    have p106 : 0 ≤ ((ji22) : Int) := of_decide_eq_true (by first | with_reducible assumption | assumption)
    have q106 : (ji22) < (l0.length : Int) := of_decide_eq_true (by first | with_reducible assumption | assumption)
    obtain ⟨ad106, e106, hx106_0⟩ := Kd.at_bool HR0.out (ji22) p106 q106
    (try rw [← Nbq15.out] at hx106_0)
    (try rw [← Nbq20.out] at hx106_0)
    (try rw [← Nbq25.out] at hx106_0)
    (try rw [← Nbq31.out] at hx106_0)
    obtain rfl : ad104 = ad106 := (by injection e106)
    replace hx106_0 := (HB.out.cell (World.block_lt_of_cell? w _ hx106_0)).trans hx106_0
    replace p106 := eq_true p106
    replace q106 := eq_true q106
    have p107 : 0 ≤ ((ji27) : Int) := of_decide_eq_true (by first | with_reducible assumption | assumption)
    have q107 : (ji27) < (l0.length : Int) := of_decide_eq_true (by first | with_reducible assumption | assumption)
    obtain ⟨ad107, e107, hx107_0⟩ := Kd.at_bool HR0.out (ji27) p107 q107
    (try rw [← Nbq15.out] at hx107_0)
    (try rw [← Nbq20.out] at hx107_0)
    (try rw [← Nbq25.out] at hx107_0)
    (try rw [← Nbq31.out] at hx107_0)
    obtain rfl : ad104 = ad107 := (by injection e107)
    replace hx107_0 := (HB.out.cell (World.block_lt_of_cell? w _ hx107_0)).trans hx107_0
    replace p107 := eq_true p107
    replace q107 := eq_true q107
    have p108 : 0 ≤ (x5_1 : Int) := of_decide_eq_true (by first | with_reducible assumption | assumption)
    have q108 : x5_1 < (l0.length : Int) := of_decide_eq_true (by first | with_reducible assumption | assumption)
    obtain ⟨ad108, e108, hx108_0⟩ := Kd.at_bool HR0.out x5_1 p108 q108
    (try rw [← Nbq15.out] at hx108_0)
    (try rw [← Nbq20.out] at hx108_0)
    (try rw [← Nbq25.out] at hx108_0)
    (try rw [← Nbq31.out] at hx108_0)
    obtain rfl : ad104 = ad108 := (by injection e108)
    replace hx108_0 := (HB.out.cell (World.block_lt_of_cell? w _ hx108_0)).trans hx108_0
    replace p108 := eq_true p108
    replace q108 := eq_true q108
    have p38 : 0 ≤ (x5_1 : Int) := of_decide_eq_true (by first | with_reducible assumption | assumption)
    have q38 : (x5_1 : Int) < ((x3_1.length : Int) : Int) := of_decide_eq_true (by first | with_reducible assumption | assumption)
    obtain ⟨go38, co38, eo38, gb38, gl38, cl38, HG38⟩ := Kd.R_form HO_3.out (by omega)
    (first | cases eo38 | (injection eo38 with ea_ en_ ec_; (first | subst ea_ | (injection ea_ with ea_; subst ea_)); subst ec_; clear en_))
    have GB38 := Aside0.mk gb38
    have GG38 := Aside0.mk HG38
    clear gb38 gl38 HG38
    obtain ⟨hx38_0, hf38_0⟩ := Kd.R_celln false HO_3.out (x5_1 : Int) p38 q38
    replace p38 := eq_true p38
    replace q38 := eq_true q38
    have HP39 := Kd.R_putg HO_3.out (x5_1 : Int) false
    go_wp2_with (first | ((with_reducible refine gate_store (t := 4) (p := 83) rfl ?_); refine store_event (t := 4) (p := 83) (v := ?vo_w40) (w1 := (wr.setCell ⟨go38, (x5_1 : Int).toNat, none⟩ (.bool false))) ?hg ?ho ?hn ?hr ?_; (case ho => rfl); (case hg => rfl); (case hn => rfl); (case hr => first | (go_simp; done) | (go_simp; rfl)); intro w40 hw; have hg : wr.grownBy w40 (some go38) := (by rw [hw]; exact HP39.2); have hp_ : Kd.R Kd.bool 4 w40 w.heap.size (fun _ => True) (.slice (some ⟨go38, 0, none⟩) x3_1.length co38) y110 := (by rw [hw, Ny110.out]; exact HP39.1); clear HP39; replace HO_3 := am_ (hp_); replace HB := am_ ((by rw [hw]; exact below_set (HB.out) GB38.out : Below w.heap.size w w40)); clear hg hw hp_))
    go_roundg k1
    case measure => have := HK1.out; omega
    case rel => exact ⟨(y110), (ji17), (by first | rfl | (simp; done) | (simp only [← hji17] <;> (first | rfl | simp)) | (simp [*]; done)), H', ⟨by have := HK1.out; omega⟩, ⟨by exact HO_3.out⟩, ⟨by repeat (first | (with_reducible first | exact HB.out | apply below_alloc | apply pw_below_drewN | apply below_drew1) | exact HB.out)⟩⟩
   replace c26 := Bool.eq_false_iff.mpr c26
   subst c26
   have H1 : (if 0 ≤ x5_1 then (if rdOf false l0 x5_1 = true then (if x5_1 < (x3_1.length : Int) then (spec_edge.l0 k1 l0 (x3_1.set (x5_1 : Int).toNat (!false)) 16 ji17) else (none)) else (if x5_1 < (x3_1.length : Int) then (spec_edge.l0 k1 l0 (x3_1.set (x5_1 : Int).toNat false) 16 ji17) else (none))) else (none)) = some r := by rw [if_neg (show ¬ (false = true) by decide)] at H; exact H
   clear H
   have H := H1
   clear H1
   by_cases c41 : 0 ≤ x5_1
   rotate_left
   ·
    rw [if_neg c41] at H
    exact absurd H (by simp)
   rw [if_pos c41] at H
   have c41b0 : decide (0 ≤ x5_1) = true := decide_eq_true c41
   clear c41
   obtain ⟨bq42, hbq42⟩ : ∃ b_ : Bool, b_ = (rdOf false l0 x5_1) := ⟨_, rfl⟩
   replace H : (if bq42 = true then (if x5_1 < (x3_1.length : Int) then (spec_edge.l0 k1 l0 (x3_1.set (x5_1 : Int).toNat (!false)) 16 ji17) else (none)) else (if x5_1 < (x3_1.length : Int) then (spec_edge.l0 k1 l0 (x3_1.set (x5_1 : Int).toNat false) 16 ji17) else (none))) = some r := by rw [← hbq42] at H; exact H
   have Nbq42 := Aside0.mk hbq42
   clear hbq42
   by_cases c43 : bq42 = true
   ·
    subst c43
    have H1 : (if x5_1 < (x3_1.length : Int) then (spec_edge.l0 k1 l0 (x3_1.set (x5_1 : Int).toNat (!false)) 16 ji17) else (none)) = some r := by rw [if_pos rfl] at H; exact H
    clear H
    have H := H1
    clear H1
    by_cases c44 : x5_1 < (x3_1.length : Int)
    rotate_left
    ·
     rw [if_neg c44] at H
     exact absurd H (by simp)
    rw [if_pos c44] at H
    have c44b0 : decide (x5_1 < (x3_1.length : Int)) = true := decide_eq_true c44
    clear c44
    obtain ⟨y112, hy112⟩ : ∃ y_ : List Bool, y_ = (x3_1.set (x5_1 : Int).toNat (!false)) := ⟨_, rfl⟩
    replace H : (spec_edge.l0 k1 l0 y112 16 ji17) = some r := by first | (rw [hy112]; with_reducible exact H) | (have H2_ := (Option.bind_some _ _).symm.trans H; rw [hy112]; with_reducible exact H2_) | (have H2_ := (Option.bind_some _ _).symm.trans H; with_reducible exact H2_) | with_reducible exact H | (rw [hy112]; exact H) | exact H
    have Ny112 := Aside0.mk hy112
    clear hy112
    have H' := Aside0.mk H
    clear H
    have p104 : 0 ≤ ((ji12) : Int) := of_decide_eq_true (by first | with_reducible assumption | assumption)
    have q104 : (ji12) < (l0.length : Int) := of_decide_eq_true (by first | with_reducible assumption | assumption)
    obtain ⟨ad104, e104, hx104_0⟩ := Kd.at_bool HR0.out (ji12) p104 q104
    (try rw [← Nbq15.out] at hx104_0)
    (try rw [← Nbq20.out] at hx104_0)
    (try rw [← Nbq25.out] at hx104_0)
    (try rw [← Nbq42.out] at hx104_0)
    cases e104
    replace hx104_0 := (HB.out.cell (World.block_lt_of_cell? w _ hx104_0)).trans hx104_0
    replace p104 := eq_true p104
    replace q104 := eq_true q104
    have p105 : 0 ≤ ((ji17) : Int) := of_decide_eq_true (by first | with_reducible assumption | assumption)
    have q105 : (ji17) < (l0.length : Int) := of_decide_eq_true (by first | with_reducible assumption | assumption)
    obtain ⟨ad105, e105, hx105_0⟩ := Kd.at_bool HR0.out (ji17) p105 q105
    (try rw [← Nbq15.out] at hx105_0)
    (try rw [← Nbq20.out] at hx105_0)
    (try rw [← Nbq25.out] at hx105_0)
    (try rw [← Nbq42.out] at hx105_0)
    obtain rfl : ad104 = ad105 := (by injection e105)
    replace hx105_0 := (HB.out.cell (World.block_lt_of_cell? w _ hx105_0)).trans hx105_0
    replace p105 := eq_true p105
    replace q105 := eq_true q105
    have p106 : 0 ≤ ((ji22) : Int) := of_decide_eq_true (by first | with_reducible assumption | assumption)
    have q106 : (ji22) < (l0.length : Int) := of_decide_eq_true (by first | with_reducible assumption | assumption)
    obtain ⟨ad106, e106, hx106_0⟩ := Kd.at_bool HR0.out (ji22) p106 q106
    (try rw [← Nbq15.out] at hx106_0)
    (try rw [← Nbq20.out] at hx106_0)
    (try rw [← Nbq25.out] at hx106_0)
    (try rw [← Nbq42.out] at hx106_0)
    obtain rfl : ad104 = ad106 := (by injection e106)
    replace hx106_0 := (HB.out.cell (World.block_lt_of_cell? w _ hx106_0)).trans hx106_0
    replace p106 := eq_true p106
    replace q106 := eq_true q106
    have p111 : 0 ≤ (x5_1 : Int) := of_decide_eq_true (by first | with_reducible assumption | assumption)
    have q111 : x5_1 < (l0.length : Int) := of_decide_eq_true (by first | with_reducible assumption | assumption)
    obtain ⟨ad111, e111, hx111_0⟩ := Kd.at_bool HR0.out x5_1 p111 q111
    (try rw [← Nbq15.out] at hx111_0)
    (try rw [← Nbq20.out] at hx111_0)
    (try rw [← Nbq25.out] at hx111_0)
    (try rw [← Nbq42.out] at hx111_0)
    obtain rfl : ad104 = ad111 := (by injection e111)
    replace hx111_0 := (HB.out.cell (World.block_lt_of_cell? w _ hx111_0)).trans hx111_0
    replace p111 := eq_true p111
    replace q111 := eq_true q111
    have p45 : 0 ≤ (x5_1 : Int) := of_decide_eq_true (by first | with_reducible assumption | assumption)
    have q45 : (x5_1 : Int) < ((x3_1.length : Int) : Int) := of_decide_eq_true (by first | with_reducible assumption | assumption)
    obtain ⟨go45, co45, eo45, gb45, gl45, cl45, HG45⟩ := Kd.R_form HO_3.out (by omega)
    (first | cases eo45 | (injection eo45 with ea_ en_ ec_; (first | subst ea_ | (injection ea_ with ea_; subst ea_)); subst ec_; clear en_))
    have GB45 := Aside0.mk gb45
    have GG45 := Aside0.mk HG45
    clear gb45 gl45 HG45
    obtain ⟨hx45_0, hf45_0⟩ := Kd.R_celln false HO_3.out (x5_1 : Int) p45 q45
    replace p45 := eq_true p45
    replace q45 := eq_true q45
    have HP46 := Kd.R_putg HO_3.out (x5_1 : Int) (!false)
    go_wp2_with (first | ((with_reducible refine gate_store (t := 4) (p := 83) rfl ?_); refine store_event (t := 4) (p := 83) (v := ?vo_w47) (w1 := (wr.setCell ⟨go45, (x5_1 : Int).toNat, none⟩ (.bool (!false)))) ?hg ?ho ?hn ?hr ?_; (case ho => rfl); (case hg => rfl); (case hn => rfl); (case hr => first | (go_simp; done) | (go_simp; rfl)); intro w47 hw; have hg : wr.grownBy w47 (some go45) := (by rw [hw]; exact HP46.2); have hp_ : Kd.R Kd.bool 4 w47 w.heap.size (fun _ => True) (.slice (some ⟨go45, 0, none⟩) x3_1.length co45) y112 := (by rw [hw, Ny112.out]; exact HP46.1); clear HP46; replace HO_3 := am_ (hp_); replace HB := am_ ((by rw [hw]; exact below_set (HB.out) GB45.out : Below w.heap.size w w47)); clear hg hw hp_))
    go_roundg k1
    case measure => have := HK1.out; omega
    case rel => exact ⟨(y112), (ji17), (by first | rfl | (simp; done) | (simp only [← hji17] <;> (first | rfl | simp)) | (simp [*]; done)), H', ⟨by have := HK1.out; omega⟩, ⟨by exact HO_3.out⟩, ⟨by repeat (first | (with_reducible first | exact HB.out | apply below_alloc | apply pw_below_drewN | apply below_drew1) | exact HB.out)⟩⟩
   replace c43 := Bool.eq_false_iff.mpr c43
   subst c43
   have H1 : (if x5_1 < (x3_1.length : Int) then (spec_edge.l0 k1 l0 (x3_1.set (x5_1 : Int).toNat false) 16 ji17) else (none)) = some r := by rw [if_neg (show ¬ (false = true) by decide)] at H; exact H
   clear H
   have H := H1
   clear H1
   by_cases c48 : x5_1 < (x3_1.length : Int)
   rotate_left
   ·
    rw [if_neg c48] at H
    exact absurd H (by simp)
   rw [if_pos c48] at H
   have c48b0 : decide (x5_1 < (x3_1.length : Int)) = true := decide_eq_true c48
   clear c48
   obtain ⟨y113, hy113⟩ : ∃ y_ : List Bool, y_ = (x3_1.set (x5_1 : Int).toNat false) := ⟨_, rfl⟩
   replace H : (spec_edge.l0 k1 l0 y113 16 ji17) = some r := by first | (rw [hy113]; with_reducible exact H) | (have H2_ := (Option.bind_some _ _).symm.trans H; rw [hy113]; with_reducible exact H2_) | (have H2_ := (Option.bind_some _ _).symm.trans H; with_reducible exact H2_) | with_reducible exact H | (rw [hy113]; exact H) | exact H
   have Ny113 := Aside0.mk hy113
   clear hy113
   have H' := Aside0.mk H
   clear H
   have p104 : 0 ≤ ((ji12) : Int) := of_decide_eq_true (by first | with_reducible assumption | assumption)
   have q104 : (ji12) < (l0.length : Int) := of_decide_eq_true (by first | with_reducible assumption | assumption)
   obtain ⟨ad104, e104, hx104_0⟩ := Kd.at_bool HR0.out (ji12) p104 q104
   (try rw [← Nbq15.out] at hx104_0)
   (try rw [← Nbq20.out] at hx104_0)
   (try rw [← Nbq25.out] at hx104_0)
   (try rw [← Nbq42.out] at hx104_0)
   cases e104
   replace hx104_0 := (HB.out.cell (World.block_lt_of_cell? w _ hx104_0)).trans hx104_0
   replace p104 := eq_true p104
   replace q104 := eq_true q104
   have p105 : 0 ≤ ((ji17) : Int) := of_decide_eq_true (by first | with_reducible assumption | assumption)
   have q105 : (ji17) < (l0.length : Int) := of_decide_eq_true (by first | with_reducible assumption | assumption)
   obtain ⟨ad105, e105, hx105_0⟩ := Kd.at_bool HR0.out (ji17) p105 q105
   (try rw [← Nbq15.out] at hx105_0)
   (try rw [← Nbq20.out] at hx105_0)
   (try rw [← Nbq25.out] at hx105_0)
   (try rw [← Nbq42.out] at hx105_0)
   obtain rfl : ad104 = ad105 := (by injection e105)
   replace hx105_0 := (HB.out.cell (World.block_lt_of_cell? w _ hx105_0)).trans hx105_0
   replace p105 := eq_true p105
   replace q105 := eq_true q105
   have p106 : 0 ≤ ((ji22) : Int) := of_decide_eq_true (by first | with_reducible assumption | assumption)
   have q106 : (ji22) < (l0.length : Int) := of_decide_eq_true (by first | with_reducible assumption | assumption)
   obtain ⟨ad106, e106, hx106_0⟩ := Kd.at_bool HR0.out (ji22) p106 q106
   (try rw [← Nbq15.out] at hx106_0)
   (try rw [← Nbq20.out] at hx106_0)
   (try rw [← Nbq25.out] at hx106_0)
   (try rw [← Nbq42.out] at hx106_0)
   obtain rfl : ad104 = ad106 := (by injection e106)
   replace hx106_0 := (HB.out.cell (World.block_lt_of_cell? w _ hx106_0)).trans hx106_0
   replace p106 := eq_true p106
   replace q106 := eq_true q106
   have p111 : 0 ≤ (x5_1 : Int) := of_decide_eq_true (by first | with_reducible assumption | assumption)
   have q111 : x5_1 < (l0.length : Int) := of_decide_eq_true (by first | with_reducible assumption | assumption)
   obtain ⟨ad111, e111, hx111_0⟩ := Kd.at_bool HR0.out x5_1 p111 q111
   (try rw [← Nbq15.out] at hx111_0)
   (try rw [← Nbq20.out] at hx111_0)
   (try rw [← Nbq25.out] at hx111_0)
   (try rw [← Nbq42.out] at hx111_0)
   obtain rfl : ad104 = ad111 := (by injection e111)
   replace hx111_0 := (HB.out.cell (World.block_lt_of_cell? w _ hx111_0)).trans hx111_0
   replace p111 := eq_true p111
   replace q111 := eq_true q111
   have p49 : 0 ≤ (x5_1 : Int) := of_decide_eq_true (by first | with_reducible assumption | assumption)
   have q49 : (x5_1 : Int) < ((x3_1.length : Int) : Int) := of_decide_eq_true (by first | with_reducible assumption | assumption)
   obtain ⟨go49, co49, eo49, gb49, gl49, cl49, HG49⟩ := Kd.R_form HO_3.out (by omega)
   (first | cases eo49 | (injection eo49 with ea_ en_ ec_; (first | subst ea_ | (injection ea_ with ea_; subst ea_)); subst ec_; clear en_))
   have GB49 := Aside0.mk gb49
   have GG49 := Aside0.mk HG49
   clear gb49 gl49 HG49
   obtain ⟨hx49_0, hf49_0⟩ := Kd.R_celln false HO_3.out (x5_1 : Int) p49 q49
   replace p49 := eq_true p49
   replace q49 := eq_true q49
   have HP50 := Kd.R_putg HO_3.out (x5_1 : Int) false
   go_wp2_with (first | ((with_reducible refine gate_store (t := 4) (p := 83) rfl ?_); refine store_event (t := 4) (p := 83) (v := ?vo_w51) (w1 := (wr.setCell ⟨go49, (x5_1 : Int).toNat, none⟩ (.bool false))) ?hg ?ho ?hn ?hr ?_; (case ho => rfl); (case hg => rfl); (case hn => rfl); (case hr => first | (go_simp; done) | (go_simp; rfl)); intro w51 hw; have hg : wr.grownBy w51 (some go49) := (by rw [hw]; exact HP50.2); have hp_ : Kd.R Kd.bool 4 w51 w.heap.size (fun _ => True) (.slice (some ⟨go49, 0, none⟩) x3_1.length co49) y113 := (by rw [hw, Ny113.out]; exact HP50.1); clear HP50; replace HO_3 := am_ (hp_); replace HB := am_ ((by rw [hw]; exact below_set (HB.out) GB49.out : Below w.heap.size w w51)); clear hg hw hp_))
   go_roundg k1
   case measure => have := HK1.out; omega
   case rel => exact ⟨(y113), (ji17), (by first | rfl | (simp; done) | (simp only [← hji17] <;> (first | rfl | simp)) | (simp [*]; done)), H', ⟨by have := HK1.out; omega⟩, ⟨by exact HO_3.out⟩, ⟨by repeat (first | (with_reducible first | exact HB.out | apply below_alloc | apply pw_below_drewN | apply below_drew1) | exact HB.out)⟩⟩

end Go.Proofs.Ytllodpaghkohbaa.Print
