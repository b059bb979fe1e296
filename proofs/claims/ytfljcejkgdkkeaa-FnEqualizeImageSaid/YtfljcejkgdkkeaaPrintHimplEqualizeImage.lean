-- laid by hp.py (a program of this work over the kit's print), with contracts by hand for what the print does not take
import Derived.Test.YtfljcejkgdkkeaaPrint0
import Derived.Test.YtfljcejkgdkkeaaPrintHx0
import Derived.Test.YtfljcejkgdkkeaaPrintHx2
import Derived.Test.YtfljcejkgdkkeaaPrintR1x2
namespace Go.Proofs.Ytfljcejkgdkkeaa.Print
open Go.RowKit Go.Proofs.YtfljcejkgdkkeaaW.PrintWords Go.Proofs.YtfljcejkgdkkeaaW.PrintLast Go.Proofs.YtfljcejkgdkkeaaW.PrintMore
attribute [local go_sem] max2_int min2_int max_two min_two max_three min_three max_four min_four   -- for this text's walks alone
set_option linter.unusedVariables false
set_option linter.unusedSimpArgs false

--SNIP impl_EqualizeImage
/-! ### impl_EqualizeImage: function 5, by hand -/
/-- How many are counted before number n. -/
def eqLess (cs : List Int) : Nat → Int
  | 0 => 0
  | n + 1 => wrap64 (eqLess cs n + rd cs (n : Int))
/-- What number n becomes. -/
def eqVal (cs : List Int) (o : Int) (n : Nat) : Int := wrap64 (Int.tdiv (wrap64 (255 * eqLess cs n)) o)
def eqTab (cs : List Int) (o : Int) (n : Nat) : List Int := (List.range n).map (eqVal cs o) ++ List.replicate (256 - n) 0
theorem eqTab_zero (cs : List Int) (o : Int) : eqTab cs o 0 = List.replicate 256 0 := rfl
theorem eqTab_length (cs : List Int) (o : Int) (n : Nat) (h : n ≤ 256) : (eqTab cs o n).length = 256 := by simp [eqTab]; omega
theorem eqTab_set (cs : List Int) (o : Int) (n : Nat) (h : n < 256) : (eqTab cs o n).set ((n : Int)).toNat (eqVal cs o n) = eqTab cs o (n + 1) := by
  unfold eqTab
  have e : ((List.range n).map (eqVal cs o)).length = n := by simp
  rw [Int.toNat_natCast, List.set_append_right _ _ (by omega), e, Nat.sub_self, show 256 - n = (256 - (n + 1)) + 1 by omega, List.replicate_succ, List.set_cons_zero, List.range_succ, List.map_append, List.append_assoc]
  rfl
def EqOk (a0 a1 a2 : Int) (l : List Int) : Prop := ImgOk a0 a1 a2 l ∧ a2 = 1
instance (a0 a1 a2 : Int) (l : List Int) : Decidable (EqOk a0 a1 a2 l) := by unfold EqOk; exact inferInstance
/-- An image whose counts are told. -/
def eqOut (a0 a1 a2 : Int) (l cs : List Int) : Option (Int × Int × Int × List Int) :=
  (slices_Max_int_int.f l).bind fun m => if cs.length = 256 ∧ 0 ≤ m ∧ m ≤ 255 then (if wrap64 ((l.length : Int) - rd cs m) = 0 then some (a0, a1, a2, l) else some (a0, a1, a2, l.map (rd (eqTab cs (wrap64 ((l.length : Int) - rd cs m)) 256)))) else none
def impl_EqualizeImage.f (k : Nat) (a0_0 : Int) (a0_1 : Int) (a0_2 : Int) (l0_3 : List Int) : Option (Int × Int × Int × List Int) :=
  if EqOk a0_0 a0_1 a0_2 l0_3 then (impl_histogram.f k a0_0 a0_1 a0_2 l0_3).bind fun cs => eqOut a0_0 a0_1 a0_2 l0_3 cs else some (0, 0, 0, [])
theorem impl_EqualizeImage.mono : ∀ a0 a1 a2 a3 k, LeO (impl_EqualizeImage.f k a0 a1 a2 a3) (impl_EqualizeImage.f (k + 1) a0 a1 a2 a3) := by
  intro a0 a1 a2 a3 k
  unfold impl_EqualizeImage.f
  exact LeO.ite (LeO.bind (impl_histogram.mono _ _ _ _ _) (fun _ => LeO.refl _)) (LeO.refl _)
set_option maxHeartbeats 8000000 in
set_option maxRecDepth 100000 in
theorem impl_EqualizeImage_1.any (n : Int) (B : Option Addr) (d : Nat) (l1 : List Int) (b : Nat) (w : World) (h0 : 0 ≤ n) (h1 : n < l1.length) (hr : Kd.C (Kd.int .i64) w B l1.length l1) (hc : w.cell? ⟨b, 0, none⟩ = some (.slice B l1.length d)) :
    Calls Try.prog 15 #[.int .i64 n, .pointer (some ⟨b, 0, none⟩)] w fun e w' => e = .returned (.int .i64 (rd l1 n)) ∧ Below w.heap.size w w' := by
  obtain ⟨ad, e1, hx⟩ := Kd.at_int hr n h0 h1
  subst e1
  have hm := hr.2.1
  have h0b := decide_eq_true h0
  have h1b := decide_eq_true h1
  clear hr
  go_enter Try.func15, Try.ntmps15
  go_wp2
  go_ret
  exact ⟨rfl, Below.refl _ _⟩
set_option maxHeartbeats 8000000 in
set_option maxRecDepth 100000 in
theorem impl_EqualizeImage.no1 (a0 a1 a2 : Int) (A : Option Addr) (c : Nat) (l : List Int) (w : World) (hr : Kd.C (Kd.int .i64) w A l.length l) (hc : l.length ≤ c) (h : ¬ ImgOk a0 a1 a2 l) :
    Calls Try.prog 5 #[.agg #[.int .i64 a0, .int .i64 a1, .int .i64 a2, .slice A l.length c]] w fun e w' => e = .returned (.agg #[.int .i64 0, .int .i64 0, .int .i64 0, .slice none 0 0]) ∧ Below w.heap.size w w' := by
  have HV : Aside0 (∀ W' : World, Below w.heap.size w W' → Calls Try.prog 10 #[.agg #[.int .i64 a0, .int .i64 a1, .int .i64 a2, .slice A l.length c]] W' fun e w' => e = .returned (.bool false) ∧ Below W'.heap.size W' w') := ⟨fun W' hW => isImage_false h A c W' (Kd.C_below hr hW) hc⟩
  have HB0 := Aside0.mk (allocs_below [.cells #[.int .i64 a0, .int .i64 a1, .int .i64 a2, .slice A l.length c] 25, .cells #[.int .i64 0, .int .i64 0, .int .i64 0, .slice none 0 0] 25] w)
  have HI0 : Aside0 (IsImg (allocs w [.cells #[.int .i64 a0, .int .i64 a1, .int .i64 a2, .slice A l.length c] 25, .cells #[.int .i64 0, .int .i64 0, .int .i64 0, .slice none 0 0] 25]) w.heap.size a0 a1 a2 (.slice A l.length c)) := ⟨allocs_img _ w 0 _ _ _ _ rfl⟩
  have HZ0 : Aside0 (IsImg (allocs w [.cells #[.int .i64 a0, .int .i64 a1, .int .i64 a2, .slice A l.length c] 25, .cells #[.int .i64 0, .int .i64 0, .int .i64 0, .slice none 0 0] 25]) (w.heap.size + 1) 0 0 0 (.slice none 0 0)) := ⟨allocs_img _ w 1 _ _ _ _ rfl⟩
  have hu := Try.underlying25
  clear hr hc h
  go_enter Try.func5, Try.ntmps5
  go_wp2_with (first
    | (refine wpList_load_img rfl _ rfl w.heap.size a0 a1 a2 _ rfl HI0.out ?_)
    | (go_at_call 10; refine (HV.out _ HB0.out).mono ?_; rintro e w1 ⟨rfl, hb⟩; have HI1 := Aside0.mk (HI0.out.below hb); have hc0_1 := HI1.out.c0; have hc1_1 := HI1.out.c1; have hc2_1 := HI1.out.c2; have HZ1 := Aside0.mk (HZ0.out.below hb); have HB1 := Aside0.mk (below_step HB0.out hb); clear hb)
    | (refine wpList_store_img rfl _ _ rfl _ 0 0 0 0 0 0 _ _ rfl rfl rfl HZ1.out ?_))
  refine bodyPost_ret (results_cell_row rfl _ _ (w.heap.size + 1) _ _ _ _ rfl (HZ1.out.row 0 0 0 _).out Try.underlying25 rfl img_size) rfl ⟨rfl, below_putRow HB1.out _ _ (by omega)⟩
set_option maxHeartbeats 8000000 in
set_option maxRecDepth 100000 in
theorem impl_EqualizeImage.no2 (a0 a1 a2 : Int) (A : Option Addr) (c : Nat) (l : List Int) (w : World) (hr : Kd.C (Kd.int .i64) w A l.length l) (hc : l.length ≤ c) (h : ImgOk a0 a1 a2 l) (h2 : a2 ≠ 1) :
    Calls Try.prog 5 #[.agg #[.int .i64 a0, .int .i64 a1, .int .i64 a2, .slice A l.length c]] w fun e w' => e = .returned (.agg #[.int .i64 0, .int .i64 0, .int .i64 0, .slice none 0 0]) ∧ Below w.heap.size w w' := by
  have HV : Aside0 (∀ W' : World, Below w.heap.size w W' → Calls Try.prog 10 #[.agg #[.int .i64 a0, .int .i64 a1, .int .i64 a2, .slice A l.length c]] W' fun e w' => e = .returned (.bool true) ∧ Below W'.heap.size W' w') := ⟨fun W' hW => isImage_true h A c W' (Kd.C_below hr hW) hc⟩
  have d2 : (a2 == 1) = false := beq_eq_false_iff_ne.mpr h2
  have d3 : (a2 != 1) = true := bne_iff_ne.mpr h2
  have HB0 := Aside0.mk (allocs_below [.cells #[.int .i64 a0, .int .i64 a1, .int .i64 a2, .slice A l.length c] 25, .cells #[.int .i64 0, .int .i64 0, .int .i64 0, .slice none 0 0] 25] w)
  have HI0 : Aside0 (IsImg (allocs w [.cells #[.int .i64 a0, .int .i64 a1, .int .i64 a2, .slice A l.length c] 25, .cells #[.int .i64 0, .int .i64 0, .int .i64 0, .slice none 0 0] 25]) w.heap.size a0 a1 a2 (.slice A l.length c)) := ⟨allocs_img _ w 0 _ _ _ _ rfl⟩
  have HZ0 : Aside0 (IsImg (allocs w [.cells #[.int .i64 a0, .int .i64 a1, .int .i64 a2, .slice A l.length c] 25, .cells #[.int .i64 0, .int .i64 0, .int .i64 0, .slice none 0 0] 25]) (w.heap.size + 1) 0 0 0 (.slice none 0 0)) := ⟨allocs_img _ w 1 _ _ _ _ rfl⟩
  have hu := Try.underlying25
  clear hr hc h h2
  go_enter Try.func5, Try.ntmps5
  go_wp2_with (first
    | (refine wpList_load_img rfl _ rfl w.heap.size a0 a1 a2 _ rfl HI0.out ?_)
    | (go_at_call 10; refine (HV.out _ HB0.out).mono ?_; rintro e w1 ⟨rfl, hb⟩; have HI1 := Aside0.mk (HI0.out.below hb); have hc0_1 := HI1.out.c0; have hc1_1 := HI1.out.c1; have hc2_1 := HI1.out.c2; have HZ1 := Aside0.mk (HZ0.out.below hb); have HB1 := Aside0.mk (below_step HB0.out hb); clear hb)
    | (refine wpList_store_img rfl _ _ rfl _ 0 0 0 0 0 0 _ _ rfl rfl rfl HZ1.out ?_))
  refine bodyPost_ret (results_cell_row rfl _ _ (w.heap.size + 1) _ _ _ _ rfl (HZ1.out.row 0 0 0 _).out Try.underlying25 rfl img_size) rfl ⟨rfl, below_putRow HB1.out _ _ (by omega)⟩
set_option maxHeartbeats 8000000 in
set_option maxRecDepth 100000 in
theorem impl_EqualizeImage.same (k : Nat) (a0 a1 : Int) (A : Option Addr) (c : Nat) (l cs : List Int) (m : Nat) (o : Int) (w : World) (hr : Kd.C (Kd.int .i64) w A l.length l) (hc : l.length ≤ c) (h : ImgOk a0 a1 1 l) (hh : impl_histogram.f k a0 a1 1 l = some cs) (hcs : cs.length = 256) (hm : slices_Max_int_int.f l = some (m : Int)) (hm1 : m < 256) (ho : wrap64 ((l.length : Int) - rd cs (m : Int)) = o) (h0 : o = 0) :
    Calls Try.prog 5 #[.agg #[.int .i64 a0, .int .i64 a1, .int .i64 1, .slice A l.length c]] w fun e w' => ∃ v : Value, e = .returned (.agg #[.int .i64 a0, .int .i64 a1, .int .i64 1, v]) ∧ Kd.R (Kd.int .i64) 3 w' w.heap.size (fun _ => True) v (l) ∧ Below w.heap.size w w' := by
  have HV : Aside0 (∀ W' : World, Below w.heap.size w W' → Calls Try.prog 10 #[.agg #[.int .i64 a0, .int .i64 a1, .int .i64 1, .slice A l.length c]] W' fun e w' => e = .returned (.bool true) ∧ Below W'.heap.size W' w') := ⟨fun W' hW => isImage_true h A c W' (Kd.C_below hr hW) hc⟩
  have HH : Aside0 (∀ W' : World, Below w.heap.size w W' → Calls Try.prog 11 #[.agg #[.int .i64 a0, .int .i64 a1, .int .i64 1, .slice A l.length c]] W' fun e w' => ∃ v0_ : Value, e = .returned v0_ ∧ Kd.R (Kd.int .i64) 3 w' W'.heap.size (fun _ => True) v0_ cs ∧ Below W'.heap.size W' w') := ⟨fun W' hW => impl_histogram.calls k a0 a1 1 A c l cs W' (Kd.C_below hr hW) hc hh⟩
  have HX : Aside0 (∀ W' : World, Below w.heap.size w W' → Calls Try.prog 12 #[.slice A l.length c] W' fun e w' => e = .returned (.int .i64 (m : Int)) ∧ Drawn0 W' w') := ⟨fun W' hW => slices_Max_int_int.calls A c l m W' (Kd.C_below hr hW) hc hm⟩
  have HCP : Aside0 (∀ W' : World, Below w.heap.size w W' → Calls Try.prog 13 #[.agg #[.int .i64 a0, .int .i64 a1, .int .i64 1, .slice A l.length c]] W' fun e w' => ∃ v3_ : Value, e = .returned (.agg #[.int .i64 a0, .int .i64 a1, .int .i64 1, v3_]) ∧ Kd.R (Kd.int .i64) 3 w' W'.heap.size (fun _ => True) v3_ l ∧ Below W'.heap.size W' w') := ⟨fun W' hW => impl_copyImage.calls a0 a1 1 A c l a0 a1 1 l W' (Kd.C_below hr hW) hc (copyImage_f a0 a1 1 l (by have := h.len; omega))⟩
  have HMI : Aside0 (∀ (l1 : List Int) (B : Option Addr) (d b : Nat) (W' : World), Below w.heap.size w W' → l1.length = 256 → Kd.C (Kd.int .i64) W' B l1.length l1 → W'.cell? ⟨b, 0, none⟩ = some (.slice B l1.length d) → Calls Try.prog 14 #[.agg #[.int .i64 a0, .int .i64 a1, .int .i64 1, .slice A l.length c], .func (.func 15) #[] #[.pointer (some ⟨b, 0, none⟩)]] W' fun e w' => ∃ v : Value, e = .returned (.agg #[.int .i64 a0, .int .i64 a1, .int .i64 1, v]) ∧ Kd.R (Kd.int .i64) 3 w' W'.heap.size (fun _ => True) v (l.map (rd l1)) ∧ Below W'.heap.size W' w') :=
    ⟨fun l1 B d b W' hW hl1 hr1 hcW => impl_mapImage.any 15 _ #[.pointer (some ⟨b, 0, none⟩)] (rd l1) Try.func15 (by kernel_rfl) rfl a0 a1 1 A c l W' (Kd.C_below hr hW) hc h.len.1 (by have := h.len.2; omega) (fun x w' hx hb => impl_EqualizeImage_1.any x B d l1 b w' (h.2.2.2.2 x hx).1 (by have := (h.2.2.2.2 x hx).2; omega) (Kd.C_below hr1 hb) (pw_cell_below hb hcW))⟩
  have HB0 := Aside0.mk (allocs_below [.cells #[.int .i64 a0, .int .i64 a1, .int .i64 1, .slice A l.length c] 25, .cells #[.int .i64 0, .int .i64 0, .int .i64 0, .slice none 0 0] 25] w)
  have HI0 : Aside0 (IsImg (allocs w [.cells #[.int .i64 a0, .int .i64 a1, .int .i64 1, .slice A l.length c] 25, .cells #[.int .i64 0, .int .i64 0, .int .i64 0, .slice none 0 0] 25]) w.heap.size a0 a1 1 (.slice A l.length c)) := ⟨allocs_img _ w 0 _ _ _ _ rfl⟩
  have HZ0 : Aside0 (IsImg (allocs w [.cells #[.int .i64 a0, .int .i64 a1, .int .i64 1, .slice A l.length c] 25, .cells #[.int .i64 0, .int .i64 0, .int .i64 0, .slice none 0 0] 25]) (w.heap.size + 1) 0 0 0 (.slice none 0 0)) := ⟨allocs_img _ w 1 _ _ _ _ rfl⟩
  have hu := Try.underlying25
  have HL := Aside0.mk h.len
  have ho' : IntKind.i64.wrap ((l.length : Int) - rd cs (m : Int)) = o := by unfold wrap64 at ho; rw [IntKind.wrap_i64]; exact ho
  subst h0
  clear hr hc h hh hm
  go_enter Try.func5, Try.ntmps5
  go_wp2_with (first
    | (refine wpList_load_img rfl _ rfl w.heap.size a0 a1 1 _ rfl HI0.out ?_)
    | (go_at_call 10; refine (HV.out _ HB0.out).mono ?_; rintro e w1 ⟨rfl, hb⟩; have HI1 := Aside0.mk (HI0.out.below hb); have hc0_1 := HI1.out.c0; have hc1_1 := HI1.out.c1; have hc2_1 := HI1.out.c2; have HZ1 := Aside0.mk (HZ0.out.below hb); have HB1 := Aside0.mk (below_step HB0.out hb); clear hb)
    | (refine wpList_load_img rfl _ rfl w.heap.size a0 a1 1 _ rfl HI1.out ?_)
    | (go_at_call 11; refine (HH.out _ HB1.out).mono ?_; rintro e w2 ⟨v2, rfl, hro, hb⟩; have HO2 := Aside0.mk (Kd.R_lower hro (below_size HB1.out)); have HI2 := Aside0.mk (HI1.out.below hb); have hc0_2 := HI2.out.c0; have hc1_2 := HI2.out.c1; have hc2_2 := HI2.out.c2; have HZ2 := Aside0.mk (HZ1.out.below hb); have HB2 := Aside0.mk (below_step HB1.out hb); clear hb hro))
  have hlt2 : (m : Int) < (cs.length : Int) := by omega
  obtain ⟨g2, cap2, e2, hg2, hg2', cells2, hc2b⟩ := Kd.R_form HO2.out (by omega)
  subst e2
  have hx2 := (Kd.R_celln 0 HO2.out (m : Int) (by omega) (by omega)).1
  rw [Int.toNat_natCast] at hx2
  replace hx2 : w2.cell? ⟨g2, m, none⟩ = some (.int .i64 (rd cs (m : Int))) := hx2
  have hc3_2 := HI2.out.c3
  clear hg2 hg2' hc2b cells2
  generalize rd cs (m : Int) = q at hx2 ho ho'
  go_quiet (first | (go_at_call 12; refine (HX.out _ (by repeat (first | exact HB2.out | apply pw_below_drewN))).mono ?_; rintro e w' ⟨rfl, ⟨nd, rfl⟩⟩; (try first | exact ⟨rfl, _, World.drewN_drewN _ _ _⟩ | exact ⟨rfl, _, Eq.trans (World.drewN_drewN _ _ _) (congrArg (World.drewN _) (Nat.add_assoc _ _ _))⟩)))
  generalize hw3 : World.drewN w2 _ = w3
  have HI3 : Aside0 (IsImg w3 w.heap.size a0 a1 1 (.slice A l.length c)) := ⟨by rw [← hw3]; exact HI2.out.drewN _⟩
  have HZ3 : Aside0 (IsImg w3 (w.heap.size + 1) 0 0 0 (.slice none 0 0)) := ⟨by rw [← hw3]; exact HZ2.out.drewN _⟩
  have HB3 : Aside0 (Below w.heap.size w w3) := ⟨by rw [← hw3]; exact pw_below_drewN HB2.out _⟩
  have HO3 : Aside0 (Kd.R (Kd.int .i64) 3 w3 w.heap.size (fun _ => True) (.slice (some ⟨g2, 0, none⟩) cs.length cap2) cs) := ⟨by rw [← hw3]; exact Kd.R_drewN HO2.out _⟩
  have hc3_3 := HI3.out.c3
  clear hw3 HI2 HZ2 HB2 HO2 hx2 hc3_2
  go_wp2_with (first
    | (refine wpList_load_img rfl _ rfl w.heap.size a0 a1 1 _ rfl HI3.out ?_)
    | (go_at_call 13; refine (HCP.out _ HB3.out).mono ?_; rintro e w4 ⟨v9, rfl, hro, hb⟩; have HZ4 := Aside0.mk (HZ3.out.below hb); have HO9 := Aside0.mk (Kd.R_lower hro (below_size HB3.out)); have HB4 := Aside0.mk (below_step HB3.out hb); clear hb hro; have H1 := Aside0.mk (own_one HO9.out))
    | (refine wpList_store_img rfl _ _ rfl _ 0 0 0 a0 a1 1 _ _ rfl rfl H1.out HZ4.out ?_))
  refine bodyPost_ret (results_cell_row rfl _ _ (w.heap.size + 1) _ _ _ _ rfl (HZ4.out.row a0 a1 1 _).out Try.underlying25 rfl img_size) rfl ⟨v9, rfl, ?_, below_putRow HB4.out _ _ (by omega)⟩
  exact Kd.R_mono (Kd.R_step (Kd.R_types HO9.out HZ4.out.out (by decide)) (fun j hj _ => setRow_other _ _ _ _ hj.2)) (fun _ _ => trivial)
set_option maxHeartbeats 8000000 in
set_option maxRecDepth 100000 in
theorem impl_EqualizeImage.other (k : Nat) (a0 a1 : Int) (A : Option Addr) (c : Nat) (l cs : List Int) (m : Nat) (o : Int) (w : World) (hr : Kd.C (Kd.int .i64) w A l.length l) (hc : l.length ≤ c) (h : ImgOk a0 a1 1 l) (hh : impl_histogram.f k a0 a1 1 l = some cs) (hcs : cs.length = 256) (hm : slices_Max_int_int.f l = some (m : Int)) (hm1 : m < 256) (ho : wrap64 ((l.length : Int) - rd cs (m : Int)) = o) (h0 : o ≠ 0) :
    Calls Try.prog 5 #[.agg #[.int .i64 a0, .int .i64 a1, .int .i64 1, .slice A l.length c]] w fun e w' => ∃ v : Value, e = .returned (.agg #[.int .i64 a0, .int .i64 a1, .int .i64 1, v]) ∧ Kd.R (Kd.int .i64) 3 w' w.heap.size (fun _ => True) v (l.map (rd (eqTab cs o 256))) ∧ Below w.heap.size w w' := by
  have HV : Aside0 (∀ W' : World, Below w.heap.size w W' → Calls Try.prog 10 #[.agg #[.int .i64 a0, .int .i64 a1, .int .i64 1, .slice A l.length c]] W' fun e w' => e = .returned (.bool true) ∧ Below W'.heap.size W' w') := ⟨fun W' hW => isImage_true h A c W' (Kd.C_below hr hW) hc⟩
  have HH : Aside0 (∀ W' : World, Below w.heap.size w W' → Calls Try.prog 11 #[.agg #[.int .i64 a0, .int .i64 a1, .int .i64 1, .slice A l.length c]] W' fun e w' => ∃ v0_ : Value, e = .returned v0_ ∧ Kd.R (Kd.int .i64) 3 w' W'.heap.size (fun _ => True) v0_ cs ∧ Below W'.heap.size W' w') := ⟨fun W' hW => impl_histogram.calls k a0 a1 1 A c l cs W' (Kd.C_below hr hW) hc hh⟩
  have HX : Aside0 (∀ W' : World, Below w.heap.size w W' → Calls Try.prog 12 #[.slice A l.length c] W' fun e w' => e = .returned (.int .i64 (m : Int)) ∧ Drawn0 W' w') := ⟨fun W' hW => slices_Max_int_int.calls A c l m W' (Kd.C_below hr hW) hc hm⟩
  have HCP : Aside0 (∀ W' : World, Below w.heap.size w W' → Calls Try.prog 13 #[.agg #[.int .i64 a0, .int .i64 a1, .int .i64 1, .slice A l.length c]] W' fun e w' => ∃ v3_ : Value, e = .returned (.agg #[.int .i64 a0, .int .i64 a1, .int .i64 1, v3_]) ∧ Kd.R (Kd.int .i64) 3 w' W'.heap.size (fun _ => True) v3_ l ∧ Below W'.heap.size W' w') := ⟨fun W' hW => impl_copyImage.calls a0 a1 1 A c l a0 a1 1 l W' (Kd.C_below hr hW) hc (copyImage_f a0 a1 1 l (by have := h.len; omega))⟩
  have HMI : Aside0 (∀ (l1 : List Int) (B : Option Addr) (d b : Nat) (W' : World), Below w.heap.size w W' → l1.length = 256 → Kd.C (Kd.int .i64) W' B l1.length l1 → W'.cell? ⟨b, 0, none⟩ = some (.slice B l1.length d) → Calls Try.prog 14 #[.agg #[.int .i64 a0, .int .i64 a1, .int .i64 1, .slice A l.length c], .func (.func 15) #[] #[.pointer (some ⟨b, 0, none⟩)]] W' fun e w' => ∃ v : Value, e = .returned (.agg #[.int .i64 a0, .int .i64 a1, .int .i64 1, v]) ∧ Kd.R (Kd.int .i64) 3 w' W'.heap.size (fun _ => True) v (l.map (rd l1)) ∧ Below W'.heap.size W' w') :=
    ⟨fun l1 B d b W' hW hl1 hr1 hcW => impl_mapImage.any 15 _ #[.pointer (some ⟨b, 0, none⟩)] (rd l1) Try.func15 (by kernel_rfl) rfl a0 a1 1 A c l W' (Kd.C_below hr hW) hc h.len.1 (by have := h.len.2; omega) (fun x w' hx hb => impl_EqualizeImage_1.any x B d l1 b w' (h.2.2.2.2 x hx).1 (by have := (h.2.2.2.2 x hx).2; omega) (Kd.C_below hr1 hb) (pw_cell_below hb hcW))⟩
  have HB0 := Aside0.mk (allocs_below [.cells #[.int .i64 a0, .int .i64 a1, .int .i64 1, .slice A l.length c] 25, .cells #[.int .i64 0, .int .i64 0, .int .i64 0, .slice none 0 0] 25] w)
  have HI0 : Aside0 (IsImg (allocs w [.cells #[.int .i64 a0, .int .i64 a1, .int .i64 1, .slice A l.length c] 25, .cells #[.int .i64 0, .int .i64 0, .int .i64 0, .slice none 0 0] 25]) w.heap.size a0 a1 1 (.slice A l.length c)) := ⟨allocs_img _ w 0 _ _ _ _ rfl⟩
  have HZ0 : Aside0 (IsImg (allocs w [.cells #[.int .i64 a0, .int .i64 a1, .int .i64 1, .slice A l.length c] 25, .cells #[.int .i64 0, .int .i64 0, .int .i64 0, .slice none 0 0] 25]) (w.heap.size + 1) 0 0 0 (.slice none 0 0)) := ⟨allocs_img _ w 1 _ _ _ _ rfl⟩
  have hu := Try.underlying25
  have HL := Aside0.mk h.len
  have ho' : IntKind.i64.wrap ((l.length : Int) - rd cs (m : Int)) = o := by unfold wrap64 at ho; rw [IntKind.wrap_i64]; exact ho
  have d0 : (o == 0) = false := beq_eq_false_iff_ne.mpr h0
  have d0' : (o = 0) = False := eq_false h0
  have HCS := Aside0.mk hcs
  clear hr hc h hh hm
  go_enter Try.func5, Try.ntmps5
  go_wp2_with (first
    | (refine wpList_load_img rfl _ rfl w.heap.size a0 a1 1 _ rfl HI0.out ?_)
    | (go_at_call 10; refine (HV.out _ HB0.out).mono ?_; rintro e w1 ⟨rfl, hb⟩; have HI1 := Aside0.mk (HI0.out.below hb); have hc0_1 := HI1.out.c0; have hc1_1 := HI1.out.c1; have hc2_1 := HI1.out.c2; have HZ1 := Aside0.mk (HZ0.out.below hb); have HB1 := Aside0.mk (below_step HB0.out hb); clear hb)
    | (refine wpList_load_img rfl _ rfl w.heap.size a0 a1 1 _ rfl HI1.out ?_)
    | (go_at_call 11; refine (HH.out _ HB1.out).mono ?_; rintro e w2 ⟨v2, rfl, hro, hb⟩; have HO2 := Aside0.mk (Kd.R_lower hro (below_size HB1.out)); have HI2 := Aside0.mk (HI1.out.below hb); have hc0_2 := HI2.out.c0; have hc1_2 := HI2.out.c1; have hc2_2 := HI2.out.c2; have HZ2 := Aside0.mk (HZ1.out.below hb); have HB2 := Aside0.mk (below_step HB1.out hb); clear hb hro))
  have hlt2 : (m : Int) < (cs.length : Int) := by omega
  obtain ⟨g2, cap2, e2, hg2, hg2', cells2, hc2b⟩ := Kd.R_form HO2.out (by omega)
  subst e2
  have hx2 := (Kd.R_celln 0 HO2.out (m : Int) (by omega) (by omega)).1
  rw [Int.toNat_natCast] at hx2
  replace hx2 : w2.cell? ⟨g2, m, none⟩ = some (.int .i64 (rd cs (m : Int))) := hx2
  have hc3_2 := HI2.out.c3
  clear hg2 hg2' hc2b cells2
  generalize rd cs (m : Int) = q at hx2 ho ho'
  go_quiet (first | (go_at_call 12; refine (HX.out _ (by repeat (first | exact HB2.out | apply pw_below_drewN))).mono ?_; rintro e w' ⟨rfl, ⟨nd, rfl⟩⟩; (try first | exact ⟨rfl, _, World.drewN_drewN _ _ _⟩ | exact ⟨rfl, _, Eq.trans (World.drewN_drewN _ _ _) (congrArg (World.drewN _) (Nat.add_assoc _ _ _))⟩)))
  generalize hw3 : World.drewN w2 _ = w3
  have HI3 : Aside0 (IsImg w3 w.heap.size a0 a1 1 (.slice A l.length c)) := ⟨by rw [← hw3]; exact HI2.out.drewN _⟩
  have HZ3 : Aside0 (IsImg w3 (w.heap.size + 1) 0 0 0 (.slice none 0 0)) := ⟨by rw [← hw3]; exact HZ2.out.drewN _⟩
  have HB3 : Aside0 (Below w.heap.size w w3) := ⟨by rw [← hw3]; exact pw_below_drewN HB2.out _⟩
  have HO3 : Aside0 (Kd.R (Kd.int .i64) 3 w3 w.heap.size (fun _ => True) (.slice (some ⟨g2, 0, none⟩) cs.length cap2) cs) := ⟨by rw [← hw3]; exact Kd.R_drewN HO2.out _⟩
  have hc3_3 := HI3.out.c3
  clear hw3 HI2 HZ2 HB2 HO2 hx2 hc3_2
  clear ho' ho hlt2 HX
  go_wp2_with (first
    | ((with_reducible refine gate_dst (N := 34) rfl ?_); refine Kd.R_make (Kd.int .i64) _ 3 rfl (N := 34) rfl 23 _ _ rfl 256 rfl rfl Try.underlying23 (.int .i64 0) 8 info3 rfl (by decide) (by omega) 0 (ok := fun _ => True) (okp := fun _ => True) rfl (fun _ hk => hk) trivial (by omega) (by omega) (Below.refl _ _) (Nat.le_refl _) ?_; intro v4 w4 hro hb hg_ hnew_; clear hg_ hnew_; have HI4 := Aside0.mk (HI3.out.below hb); have HZ4 := Aside0.mk (HZ3.out.below hb); have HO4 := Aside0.mk (Kd.R_elder' HO3.out (Kd.R_base hro) hb); have HT4 := Aside0.mk (Kd.R_lower hro (below_size HB3.out)); have HB4 := Aside0.mk (below_step HB3.out hb); clear hb hro)
    | ((with_reducible refine gate_dst (N := 5) rfl ?_); refine box_event ?hg (N := 5) ?hd (cs := #[.slice none 0 0]) (t := 23) ?hr ?_; (case hd => rfl); (case hg => rfl); (case hr => first | (go_simp; done) | (go_simp; rfl)); intro gb hg w5 hbox hb; have HK5 := Aside0.mk hbox; have HG := Aside0.mk (show w.heap.size ≤ gb by rw [hg]; exact below_size HB4.out); have HI5 := Aside0.mk (HI4.out.below hb); have HZ5 := Aside0.mk (HZ4.out.below hb); have HO5 := Aside0.mk (Kd.R_below HO4.out hb); have HT5 := Aside0.mk (Kd.R_below HT4.out hb); have HB5 := Aside0.mk (below_step HB4.out hb); clear hb hbox hg)
    | ((with_reducible refine gate_store (t := 23) (p := 5) rfl ?_); refine store_event (t := 23) (p := 5) (v := ?vo) (w1 := (w5.setCell ⟨gb, 0, none⟩ v4)) ?hg ?ho ?hn ?hr ?_; (case ho => rfl); (case hg => rfl); (case hn => rfl); (case hr => (have hfz := blk_frozen HK5.out 0; have hcc := (blk_cell HK5.out 0).trans rfl; have hone := own_one HT5.out; obtain ⟨A', c', ev⟩ := Kd.R_slice HT5.out; subst ev; first | (go_simp; done) | (go_simp; rfl))); intro w6 hw6; have HK6 : Aside0 (w6.heap[gb]? = some (.cells #[v4] 23 (0, 0))) := ⟨by rw [hw6]; exact blk_put HK5.out 0 _ rfl⟩; have hne1 := Aside0.mk (blk_ne HI5.out.out HK5.out (by decide)); have hne2 := Aside0.mk (blk_ne HZ5.out.out HK5.out (by decide)); have HI6 : Aside0 (IsImg w6 w.heap.size a0 a1 1 (.slice A l.length c)) := ⟨by rw [hw6]; exact HI5.out.far (p := ⟨gb, 0, none⟩) hne1.out _⟩; have HZ6 : Aside0 (IsImg w6 (w.heap.size + 1) 0 0 0 (.slice none 0 0)) := ⟨by rw [hw6]; exact HZ5.out.far (p := ⟨gb, 0, none⟩) hne2.out _⟩; have HO6 : Aside0 (Kd.R (Kd.int .i64) 3 w6 w.heap.size (fun k => True ∧ some k ≠ v4.ownBlock) (.slice (some ⟨g2, 0, none⟩) cs.length cap2) cs) := ⟨by rw [hw6]; exact Kd.R_set HO5.out HK5.out (by decide) 0 _⟩; have HT6 : Aside0 (Kd.R (Kd.int .i64) 3 w6 w.heap.size (fun _ => True) v4 (List.replicate 256 0)) := ⟨by rw [hw6]; exact Kd.R_set HT5.out HK5.out (by decide) 0 _⟩; have HB6 : Aside0 (Below w.heap.size w w6) := ⟨by rw [hw6]; exact below_set HB5.out HG.out⟩; clear hw6 hne1 hne2 HI5 HZ5 HO5 HT5 HB5 HK5 HI4 HZ4 HO4 HT4 HB4))
  obtain ⟨g4, cap4, e4, -, -, -⟩ := Kd.R_form HT6.out (by rw [List.length_replicate]; omega)
  rw [List.length_replicate] at e4
  subst e4
  have HO6x : Aside0 (Kd.R (Kd.int .i64) 3 w6 w.heap.size (fun k => True ∧ k ≠ g4) (.slice (some ⟨g2, 0, none⟩) cs.length cap2) cs) := ⟨Kd.R_mono HO6.out (fun k hk => ⟨trivial, fun e => hk.2 (by simp [Value.ownBlock, e])⟩)⟩
  go_loopw [6, 37] (fun vl i wr => ∃ n : Nat, n ≤ 256 ∧ i = .int .i64 n ∧ vl = .int .i64 (eqLess cs n) ∧ Aside0 (IsImg wr w.heap.size a0 a1 1 (.slice A l.length c)) ∧ Aside0 (IsImg wr (w.heap.size + 1) 0 0 0 (.slice none 0 0)) ∧ Aside0 (wr.heap[gb]? = some (.cells #[.slice (some ⟨g4, 0, none⟩) 256 cap4] 23 (0, 0))) ∧ Aside0 (Kd.R (Kd.int .i64) 3 wr w.heap.size (fun k => True ∧ k ≠ g4) (.slice (some ⟨g2, 0, none⟩) cs.length cap2) cs) ∧ Aside0 (Kd.R (Kd.int .i64) 3 wr w.heap.size (fun _ => True) (.slice (some ⟨g4, 0, none⟩) 256 cap4) (eqTab cs o n)) ∧ Aside0 (Below w.heap.size w wr)) (fun _ i _ => 256 - (intOf i).toNat)
  case atStart => exact ⟨0, by omega, rfl, rfl, HI6, HZ6, HK6, HO6x, HT6, HB6⟩
  case round =>
    clear HI6 HZ6 HK6 HO6 HO6x HT6 HB6 HI3 HZ3 HB3 HO3 hc3_3
    obtain ⟨n, hn, rfl, rfl, HI, HZ, HK, HO, HT, HB⟩ := hrel
    by_cases hlt : n < 256
    · obtain ⟨wo, rfl⟩ : ∃ wo : World, wo = wr := ⟨_, rfl⟩
      have hcl := HCS.out
      have hdk : decide ((n : Int) < (cs.length : Int)) = true := decide_eq_true (by omega)
      have hdk2 : decide (n < cs.length) = true := decide_eq_true (by omega)
      have hx := (Kd.R_celln 0 HO.out (n : Int) (by omega) (by omega)).1
      rw [Int.toNat_natCast] at hx
      replace hx : wo.cell? ⟨g2, n, none⟩ = some (.int .i64 (rd cs (n : Int))) := hx
      have hy := Kd.R_celln 0 HT.out (n : Int) (by omega) (by omega)
      rw [Int.toNat_natCast] at hy
      have hy1 := hy.1
      have hy2 := hy.2
      clear hy
      have hkc := (blk_cell HK.out 0).trans rfl
      have hv : wrap64 (Int.tdiv (wrap64 (255 * eqLess cs n)) o) = eqVal cs o n := rfl
      have hs : wrap64 (eqLess cs n + rd cs (n : Int)) = eqLess cs (n + 1) := rfl
      have HM := Aside0.mk (eqTab_set cs o n hlt)
      generalize eqVal cs o n = ev at hv HM
      generalize hls : eqLess cs (n + 1) = ls at hs
      have HLS := Aside0.mk hls
      clear hls
      generalize eqLess cs n = l0 at hv hs
      generalize rd cs (n : Int) = cn at hx hs
      go_wp2_with fail
      go_region
      all_goals
        have hP := Kd.R_putg HT.out (n : Int) ev
        rw [HM.out, Int.toNat_natCast] at hP
        have HI4 := Aside0.mk (HI.out.grown hP.2 (Kd.R_ne HT.out HI.out.out (by decide))).drew
        have HZ4 := Aside0.mk (HZ.out.grown hP.2 (Kd.R_ne HT.out HZ.out.out (by decide))).drew
        have HK4 := Aside0.mk (blk_drew (blk_grown HK.out hP.2 (Kd.R_ne HT.out HK.out (by decide))))
        have HO4 := Aside0.mk (Kd.R_drew (Kd.R_grown HO.out hP.2 (fun k hk => by simp only [ne_eq, Option.some.injEq]; exact hk.2)))
        have HB4 := Aside0.mk (below_drew (below_set (v := .int .i64 ev) (j := n) HB.out (Kd.R_base HT.out g4 rfl)))
        have HT4 := Aside0.mk (Kd.R_drew hP.1)
        clear hP hx hy1 hy2 hkc hv HI HZ HK HO HT HB
        go_wp2
        go_roundw
        case rel => exact ⟨n + 1, by omega, by go_num, by rw [HLS.out, hs], HI4, HZ4, HK4, HO4, HT4, HB4⟩
        case measure => simp [intOf]; omega
    · obtain rfl : n = 256 := by omega
      have hcl := HCS.out
      have hdk : decide (((256 : Nat) : Int) < (cs.length : Int)) = false := decide_eq_false (by omega)
      have hdk2 : decide (256 < cs.length) = false := decide_eq_false (by omega)
      have hdk3 : decide ((256 : Int) < (cs.length : Int)) = false := decide_eq_false (by omega)
      have hlen := eqTab_length cs o 256 (Nat.le_refl _)
      have hcc := (blk_cell HK.out 0).trans rfl
      have HCT := Aside0.mk (Kd.R_reads' HT.out).2.2
      rw [← hlen] at hcc
      go_wp2_with (first
        | (refine wpList_load_img rfl _ rfl w.heap.size a0 a1 1 _ rfl HI.out ?_)
        | (go_at_call 14; refine (HMI.out _ _ _ _ _ HB.out hlen HCT.out hcc).mono ?_; rintro e w7 ⟨v9, rfl, hro, hb⟩; have HZ7 := Aside0.mk (HZ.out.below hb); have HO9 := Aside0.mk (Kd.R_lower hro (below_size HB.out)); have HB7 := Aside0.mk (below_step HB.out hb); clear hb hro; have H1 := Aside0.mk (own_one HO9.out))
        | (refine wpList_store_img rfl _ _ rfl _ 0 0 0 a0 a1 1 _ _ rfl rfl H1.out HZ7.out ?_))
      refine bodyPost_ret (results_cell_row rfl _ _ (w.heap.size + 1) _ _ _ _ rfl (HZ7.out.row a0 a1 1 _).out Try.underlying25 rfl img_size) rfl ⟨v9, rfl, ?_, below_putRow HB7.out _ _ (by omega)⟩
      exact Kd.R_mono (Kd.R_step (Kd.R_types HO9.out HZ7.out.out (by decide)) (fun j hj _ => setRow_other _ _ _ _ hj.2)) (fun _ _ => trivial)
theorem impl_EqualizeImage.calls (k : Nat) (a0_0 : Int) (a0_1 : Int) (a0_2 : Int) (A0_3 : Option Addr) (c0_3 : Nat) (l0_3 : List Int) (r1 : Int) (r2 : Int) (r3 : Int) (r4 : List Int) (w : World) (hr0_3 : Kd.C (Kd.int .i64) w A0_3 l0_3.length l0_3) (hc0_3 : l0_3.length ≤ c0_3) (h : impl_EqualizeImage.f k a0_0 a0_1 a0_2 l0_3 = some (r1, r2, r3, r4)) :
    Calls Try.prog 5 #[.agg #[.int .i64 a0_0, .int .i64 a0_1, .int .i64 a0_2, .slice A0_3 l0_3.length c0_3]] w fun e w' => ∃ v3_ : Value, e = .returned (.agg #[.int .i64 r1, .int .i64 r2, .int .i64 r3, v3_]) ∧ Kd.R (Kd.int .i64) 3 w' w.heap.size (fun _ => True) v3_ r4 ∧ Below w.heap.size w w' := by
  unfold impl_EqualizeImage.f at h
  by_cases hk : EqOk a0_0 a0_1 a0_2 l0_3
  · rw [if_pos hk] at h
    obtain ⟨hi, rfl⟩ := hk
    obtain ⟨cs, hh, h⟩ := Option.bind_eq_some_iff.mp h
    obtain ⟨m, hm, h⟩ := Option.bind_eq_some_iff.mp h
    by_cases h1 : cs.length = 256 ∧ 0 ≤ m ∧ m ≤ 255
    · rw [if_pos h1] at h
      obtain ⟨hcs, m0, m1⟩ := h1
      obtain ⟨m, rfl⟩ := Int.eq_ofNat_of_zero_le m0
      by_cases h2 : wrap64 ((l0_3.length : Int) - rd cs (m : Int)) = 0
      · rw [if_pos h2] at h
        simp only [Option.some.injEq, Prod.mk.injEq] at h
        obtain ⟨rfl, rfl, rfl, rfl⟩ := h
        exact impl_EqualizeImage.same k a0_0 a0_1 A0_3 c0_3 l0_3 cs m _ w hr0_3 hc0_3 hi hh hcs hm (by omega) rfl h2
      · rw [if_neg h2] at h
        simp only [Option.some.injEq, Prod.mk.injEq] at h
        obtain ⟨rfl, rfl, rfl, rfl⟩ := h
        exact impl_EqualizeImage.other k a0_0 a0_1 A0_3 c0_3 l0_3 cs m _ w hr0_3 hc0_3 hi hh hcs hm (by omega) rfl h2
    · rw [if_neg h1] at h
      cases h
  · rw [if_neg hk] at h
    simp only [Option.some.injEq, Prod.mk.injEq] at h
    obtain ⟨rfl, rfl, rfl, rfl⟩ := h
    have hn : Calls Try.prog 5 #[.agg #[.int .i64 a0_0, .int .i64 a0_1, .int .i64 a0_2, .slice A0_3 l0_3.length c0_3]] w fun e w' => e = .returned (.agg #[.int .i64 0, .int .i64 0, .int .i64 0, .slice none 0 0]) ∧ Below w.heap.size w w' := by
      by_cases h1 : ImgOk a0_0 a0_1 a0_2 l0_3
      · exact impl_EqualizeImage.no2 _ _ _ A0_3 c0_3 l0_3 w hr0_3 hc0_3 h1 (fun h2 => hk ⟨h1, h2⟩)
      · exact impl_EqualizeImage.no1 _ _ _ A0_3 c0_3 l0_3 w hr0_3 hc0_3 h1
    refine hn.mono ?_
    rintro e w1 ⟨rfl, hb⟩
    exact ⟨_, rfl, Kd.R_nil _ _ _ _ _, hb⟩

end Go.Proofs.Ytfljcejkgdkkeaa.Print
