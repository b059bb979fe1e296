-- laid by hp.py (a program of this work over the kit's print), with contracts by hand for what the print does not take
import Derived.Test.YtonolnojpejgnaaPrint0
import Derived.Test.YtonolnojpejgnaaPrintHx0
import Derived.Test.YtonolnojpejgnaaPrintHx2
namespace Go.Proofs.Ytonolnojpejgnaa.Print
open Go.RowKit Go.Proofs.YtonolnojpejgnaaW.PrintWords Go.Proofs.YtonolnojpejgnaaW.PrintLast Go.Proofs.YtonolnojpejgnaaW.PrintMore
attribute [local go_sem] max2_int min2_int max_two min_two max_three min_three max_four min_four   -- for this text's walks alone
set_option linter.unusedVariables false
set_option linter.unusedSimpArgs false

--SNIP impl_MapImage
/-! ### impl_MapImage: function 31, by hand -/
set_option maxHeartbeats 8000000 in
set_option maxRecDepth 100000 in
theorem impl_MapImage_1.any (n : Int) (B : Option Addr) (d : Nat) (l1 : List Int) (b : Nat) (w : World) (h0 : 0 ≤ n) (h1 : n < l1.length) (hr : Kd.C (Kd.int .i64) w B l1.length l1) (hc : w.cell? ⟨b, 0, none⟩ = some (.slice B l1.length d)) :
    Calls Try.prog 62 #[.int .i64 n, .pointer (some ⟨b, 0, none⟩)] w fun e w' => e = .returned (.int .i64 (rd l1 n)) ∧ Below w.heap.size w w' := by
  obtain ⟨ad, e1, hx⟩ := Kd.at_int hr n h0 h1
  subst e1
  have hm := hr.2.1
  have h0b := decide_eq_true h0
  have h1b := decide_eq_true h1
  clear hr
  go_enter Try.func62, Try.ntmps62
  go_wp2
  go_ret
  exact ⟨rfl, Below.refl _ _⟩
/-- What a list of replacements must be. -/
def MapOk (a0 a1 a2 : Int) (l l1 : List Int) : Prop := ImgOk a0 a1 a2 l ∧ l1.length = 256 ∧ ∀ x ∈ l1, 0 ≤ x ∧ x ≤ 255
instance (a0 a1 a2 : Int) (l l1 : List Int) : Decidable (MapOk a0 a1 a2 l l1) := by unfold MapOk; exact inferInstance
def impl_MapImage.f (a0_0 : Int) (a0_1 : Int) (a0_2 : Int) (l0_3 : List Int) (l1 : List Int) : Option (Int × Int × Int × List Int × Bool) := some (if MapOk a0_0 a0_1 a0_2 l0_3 l1 then (a0_0, a0_1, a0_2, l0_3.map (rd l1), true) else (0, 0, 0, [], false))
theorem world_three (w : World) (o1 o2 o3 : Obj) : Below w.heap.size w (((w.alloc o1).alloc o2).alloc o3) := below_alloc (below_two w o1 o2) o3
theorem IsImg.third (w : World) (o1 o2 : Obj) (a0 a1 a2 : Int) (v : Value) : IsImg (((w.alloc o1).alloc o2).alloc (.cells #[.int .i64 a0, .int .i64 a1, .int .i64 a2, v] 27)) (w.heap.size + 2) a0 a1 a2 v := by
  have h := IsImg.new ((w.alloc o1).alloc o2) a0 a1 a2 v
  rwa [wsize_alloc, wsize_alloc] at h
theorem IsImg.first3 (w : World) (o2 o3 : Obj) (a0 a1 a2 : Int) (v : Value) : IsImg (((w.alloc (.cells #[.int .i64 a0, .int .i64 a1, .int .i64 a2, v] 27)).alloc o2).alloc o3) w.heap.size a0 a1 a2 v := (IsImg.old w a0 a1 a2 v o2).alloc o3
theorem second3_cell (w : World) (o1 o3 : Obj) (v : Value) (t : TypeId) : (((w.alloc o1).alloc (.cells #[v] t)).alloc o3).cell? ⟨w.heap.size + 1, 0, none⟩ = some v := by
  have h := Go.heap_alloc_new (w.alloc o1) (.cells #[v] t)
  rw [wsize_alloc] at h
  have h2 : (((w.alloc o1).alloc (.cells #[v] t)).alloc o3).heap[w.heap.size + 1]? = some (.cells #[v] t (0, 0)) := (heap_alloc_old _ o3 (by rw [wsize_alloc, wsize_alloc]; omega)).trans h
  exact (blk_cell h2 0).trans rfl
set_option maxHeartbeats 8000000 in
set_option maxRecDepth 100000 in
theorem impl_MapImage.no1 (a0 a1 a2 : Int) (A : Option Addr) (c : Nat) (l : List Int) (B : Option Addr) (d : Nat) (l1 : List Int) (w : World) (hr : Kd.C (Kd.int .i64) w A l.length l) (hc : l.length ≤ c) (hr1 : Kd.C (Kd.int .i64) w B l1.length l1) (hc1 : l1.length ≤ d) (h : ¬ ImgOk a0 a1 a2 l) :
    Calls Try.prog 31 #[.agg #[.int .i64 a0, .int .i64 a1, .int .i64 a2, .slice A l.length c], .slice B l1.length d] w fun e w' => e = .returned (.tuple #[.agg #[.int .i64 0, .int .i64 0, .int .i64 0, .slice none 0 0], .bool false]) ∧ Below w.heap.size w w' := by
  have HV : Aside0 (∀ W : World, Below w.heap.size w W → Calls Try.prog 47 #[.agg #[.int .i64 a0, .int .i64 a1, .int .i64 a2, .slice A l.length c]] W fun e w' => e = .returned (.bool false) ∧ Below W.heap.size W w') := ⟨fun W hW => isImage_false h A c W (Kd.C_below hr hW) hc⟩
  clear hr hc h hr1 hc1
  have hu := Try.underlying27
  go_enter Try.func31, Try.ntmps31
  go_wp2_with (first
    | (refine wpList_load_img rfl _ rfl w.heap.size a0 a1 a2 _ rfl (IsImg.first3 w _ _ a0 a1 a2 _) ?_)
    | (go_at_call 47; refine (HV.out _ (world_three w _ _ _)).mono ?_; rintro e w1 ⟨rfl, hb1⟩; have HI := Aside0.mk ((IsImg.first3 w _ _ a0 a1 a2 _).below hb1); have HZ := Aside0.mk ((IsImg.third w _ _ 0 0 0 (.slice none 0 0)).below hb1); have hcell := pw_cell_below hb1 (second3_cell w _ _ _ _); have HB := Aside0.mk (below_step (world_three w _ _ _) hb1); clear hb1)
    | (refine wpList_store_img rfl _ _ rfl _ 0 0 0 0 0 0 _ _ rfl rfl rfl HZ.out ?_))
  refine bodyPost_ret (results_ct rfl _ _ (w.heap.size + 2) 27 _ _ _ rfl (HZ.out.row 0 0 0 _).out Try.underlying27 rfl img_size) rfl ⟨rfl, below_putRow HB.out _ _ (by omega)⟩
set_option maxHeartbeats 8000000 in
set_option maxRecDepth 100000 in
theorem impl_MapImage.no2 (a0 a1 a2 : Int) (A : Option Addr) (c : Nat) (l : List Int) (B : Option Addr) (d : Nat) (l1 : List Int) (w : World) (hr : Kd.C (Kd.int .i64) w A l.length l) (hc : l.length ≤ c) (hr1 : Kd.C (Kd.int .i64) w B l1.length l1) (hc1 : l1.length ≤ d) (h : ImgOk a0 a1 a2 l) (hn : l1.length ≠ 256) :
    Calls Try.prog 31 #[.agg #[.int .i64 a0, .int .i64 a1, .int .i64 a2, .slice A l.length c], .slice B l1.length d] w fun e w' => e = .returned (.tuple #[.agg #[.int .i64 0, .int .i64 0, .int .i64 0, .slice none 0 0], .bool false]) ∧ Below w.heap.size w w' := by
  have HV : Aside0 (∀ W : World, Below w.heap.size w W → Calls Try.prog 47 #[.agg #[.int .i64 a0, .int .i64 a1, .int .i64 a2, .slice A l.length c]] W fun e w' => e = .returned (.bool true) ∧ Below W.heap.size W w') := ⟨fun W hW => isImage_true h A c W (Kd.C_below hr hW) hc⟩
  have hd1 : ((l1.length : Int) != 256) = true := by simp; omega
  have hd2 : ((l1.length : Int) == 256) = false := by simp; omega
  clear hr hc h hr1 hc1
  have hu := Try.underlying27
  go_enter Try.func31, Try.ntmps31
  go_wp2_with (first
    | (refine wpList_load_img rfl _ rfl w.heap.size a0 a1 a2 _ rfl (IsImg.first3 w _ _ a0 a1 a2 _) ?_)
    | (go_at_call 47; refine (HV.out _ (world_three w _ _ _)).mono ?_; rintro e w1 ⟨rfl, hb1⟩; have HI := Aside0.mk ((IsImg.first3 w _ _ a0 a1 a2 _).below hb1); have HZ := Aside0.mk ((IsImg.third w _ _ 0 0 0 (.slice none 0 0)).below hb1); have hcell := pw_cell_below hb1 (second3_cell w _ _ _ _); have HB := Aside0.mk (below_step (world_three w _ _ _) hb1); clear hb1)
    | (refine wpList_store_img rfl _ _ rfl _ 0 0 0 0 0 0 _ _ rfl rfl rfl HZ.out ?_))
  refine bodyPost_ret (results_ct rfl _ _ (w.heap.size + 2) 27 _ _ _ rfl (HZ.out.row 0 0 0 _).out Try.underlying27 rfl img_size) rfl ⟨rfl, below_putRow HB.out _ _ (by omega)⟩
set_option maxHeartbeats 8000000 in
set_option maxRecDepth 100000 in
theorem impl_MapImage.no3 (a0 a1 a2 : Int) (A : Option Addr) (c : Nat) (l : List Int) (B : Option Addr) (d : Nat) (l1 : List Int) (w : World) (hr : Kd.C (Kd.int .i64) w A l.length l) (hc : l.length ≤ c) (hr1 : Kd.C (Kd.int .i64) w B l1.length l1) (hc1 : l1.length ≤ d) (h : ImgOk a0 a1 a2 l) (hn : l1.length = 256) (hbb : ¬ ∀ x ∈ l1, 0 ≤ x ∧ x ≤ 255) :
    Calls Try.prog 31 #[.agg #[.int .i64 a0, .int .i64 a1, .int .i64 a2, .slice A l.length c], .slice B l1.length d] w fun e w' => e = .returned (.tuple #[.agg #[.int .i64 0, .int .i64 0, .int .i64 0, .slice none 0 0], .bool false]) ∧ Below w.heap.size w w' := by
  have HV : Aside0 (∀ W : World, Below w.heap.size w W → Calls Try.prog 47 #[.agg #[.int .i64 a0, .int .i64 a1, .int .i64 a2, .slice A l.length c]] W fun e w' => e = .returned (.bool true) ∧ Below W.heap.size W w') := ⟨fun W hW => isImage_true h A c W (Kd.C_below hr hW) hc⟩
  have HA : Aside0 (∀ W : World, Below w.heap.size w W → Calls Try.prog 61 #[.slice B l1.length d] W fun e w' => e = .returned (.bool false) ∧ Drawn0 W w') := ⟨fun W hW => impl_areBytes.calls B d l1 false W (Kd.C_below hr1 hW) hc1 (by rw [impl_areBytes.eq, decide_eq_false hbb])⟩
  have hd1 : ((l1.length : Int) != 256) = false := by simp; omega
  have hd2 : ((l1.length : Int) == 256) = true := by simp; omega
  clear hr hc h hr1 hc1 hbb hn
  have hu := Try.underlying27
  go_enter Try.func31, Try.ntmps31
  go_wp2_with (first
    | (refine wpList_load_img rfl _ rfl w.heap.size a0 a1 a2 _ rfl (IsImg.first3 w _ _ a0 a1 a2 _) ?_)
    | (go_at_call 47; refine (HV.out _ (world_three w _ _ _)).mono ?_; rintro e w1 ⟨rfl, hb1⟩; have HI := Aside0.mk ((IsImg.first3 w _ _ a0 a1 a2 _).below hb1); have HZ := Aside0.mk ((IsImg.third w _ _ 0 0 0 (.slice none 0 0)).below hb1); have hcell := pw_cell_below hb1 (second3_cell w _ _ _ _); have HB := Aside0.mk (below_step (world_three w _ _ _) hb1); clear hb1)
    | (go_at_call 61; refine (HA.out _ HB.out).mono ?_; rintro e w2 ⟨rfl, hd2⟩; have hb2 := hd2.below; have hcell2 := pw_cell_below hb2 hcell; have HI2 := Aside0.mk (HI.out.below hb2); have HZ2 := Aside0.mk (HZ.out.below hb2); have HB2 := Aside0.mk (below_step HB.out hb2); clear hb2 hd2)
    | (refine wpList_store_img rfl _ _ rfl _ 0 0 0 0 0 0 _ _ rfl rfl rfl HZ2.out ?_))
  refine bodyPost_ret (results_ct rfl _ _ (w.heap.size + 2) 27 _ _ _ rfl (HZ2.out.row 0 0 0 _).out Try.underlying27 rfl img_size) rfl ⟨rfl, below_putRow HB2.out _ _ (by omega)⟩
set_option maxHeartbeats 8000000 in
set_option maxRecDepth 100000 in
theorem impl_MapImage.yes (a0 a1 a2 : Int) (A : Option Addr) (c : Nat) (l : List Int) (B : Option Addr) (d : Nat) (l1 : List Int) (w : World) (hr : Kd.C (Kd.int .i64) w A l.length l) (hc : l.length ≤ c) (hr1 : Kd.C (Kd.int .i64) w B l1.length l1) (hc1 : l1.length ≤ d) (hm : MapOk a0 a1 a2 l l1) :
    Calls Try.prog 31 #[.agg #[.int .i64 a0, .int .i64 a1, .int .i64 a2, .slice A l.length c], .slice B l1.length d] w fun e w' => ∃ v : Value, e = .returned (.tuple #[.agg #[.int .i64 a0, .int .i64 a1, .int .i64 a2, v], .bool true]) ∧ Kd.R (Kd.int .i64) 3 w' w.heap.size (fun _ => True) v (l.map (rd l1)) ∧ Below w.heap.size w w' := by
  obtain ⟨h, hn, hbb⟩ := hm
  have HV : Aside0 (∀ W : World, Below w.heap.size w W → Calls Try.prog 47 #[.agg #[.int .i64 a0, .int .i64 a1, .int .i64 a2, .slice A l.length c]] W fun e w' => e = .returned (.bool true) ∧ Below W.heap.size W w') := ⟨fun W hW => isImage_true h A c W (Kd.C_below hr hW) hc⟩
  have HA : Aside0 (∀ W : World, Below w.heap.size w W → Calls Try.prog 61 #[.slice B l1.length d] W fun e w' => e = .returned (.bool true) ∧ Drawn0 W w') := ⟨fun W hW => impl_areBytes.calls B d l1 true W (Kd.C_below hr1 hW) hc1 (by rw [impl_areBytes.eq, decide_eq_true hbb])⟩
  have HM : Aside0 (∀ W : World, Below w.heap.size w W → W.cell? ⟨w.heap.size + 1, 0, none⟩ = some (.slice B l1.length d) → Calls Try.prog 51 #[.agg #[.int .i64 a0, .int .i64 a1, .int .i64 a2, .slice A l.length c], .func (.func 62) #[] #[.pointer (some ⟨w.heap.size + 1, 0, none⟩)]] W fun e w' => ∃ v : Value, e = .returned (.agg #[.int .i64 a0, .int .i64 a1, .int .i64 a2, v]) ∧ Kd.R (Kd.int .i64) 3 w' W.heap.size (fun _ => True) v (l.map (rd l1)) ∧ Below W.heap.size W w') :=
    ⟨fun W hW hcW => impl_mapImage.any 62 _ #[.pointer (some ⟨w.heap.size + 1, 0, none⟩)] (rd l1) Try.func62 (by kernel_rfl) rfl a0 a1 a2 A c l W (Kd.C_below hr hW) hc h.len.1 (by have := h.len.2; omega) (fun x w' hx hb => impl_MapImage_1.any x B d l1 _ w' (h.2.2.2.2 x hx).1 (by have := (h.2.2.2.2 x hx).2; omega) (Kd.C_below hr1 (below_step hW hb)) (pw_cell_below hb hcW))⟩
  have hd1 : ((l1.length : Int) != 256) = false := by simp; omega
  have hd2 : ((l1.length : Int) == 256) = true := by simp; omega
  clear hr hc h hr1 hc1 hbb hn
  have hu := Try.underlying27
  go_enter Try.func31, Try.ntmps31
  go_wp2_with (first
    | (refine wpList_load_img rfl _ rfl w.heap.size a0 a1 a2 _ rfl (IsImg.first3 w _ _ a0 a1 a2 _) ?_)
    | (go_at_call 47; refine (HV.out _ (world_three w _ _ _)).mono ?_; rintro e w1 ⟨rfl, hb1⟩; have HI := Aside0.mk ((IsImg.first3 w _ _ a0 a1 a2 _).below hb1); have HZ := Aside0.mk ((IsImg.third w _ _ 0 0 0 (.slice none 0 0)).below hb1); have hcell := pw_cell_below hb1 (second3_cell w _ _ _ _); have HB := Aside0.mk (below_step (world_three w _ _ _) hb1); clear hb1)
    | (go_at_call 61; refine (HA.out _ HB.out).mono ?_; rintro e w2 ⟨rfl, hd2⟩; have hb2 := hd2.below; have hcell2 := pw_cell_below hb2 hcell; have HI2 := Aside0.mk (HI.out.below hb2); have HZ2 := Aside0.mk (HZ.out.below hb2); have HB2 := Aside0.mk (below_step HB.out hb2); clear hb2 hd2)
    | (refine wpList_load_img rfl _ rfl w.heap.size a0 a1 a2 _ rfl HI2.out ?_)
    | (go_at_call 51; refine (HM.out _ HB2.out hcell2).mono ?_; rintro e w3 ⟨v, rfl, ho, hb3⟩; have HZ3 := Aside0.mk (HZ2.out.below hb3); have HO := Aside0.mk (Kd.R_lower ho (below_size HB2.out)); have HB3 := Aside0.mk (below_step HB2.out hb3); clear hb3 ho; have H1 := Aside0.mk (own_one HO.out))
    | (refine wpList_store_img rfl _ _ rfl _ 0 0 0 a0 a1 a2 _ _ rfl rfl H1.out HZ3.out ?_))
  refine bodyPost_ret (results_ct rfl _ _ (w.heap.size + 2) 27 _ _ _ rfl (HZ3.out.row a0 a1 a2 _).out Try.underlying27 rfl img_size) rfl ⟨v, rfl, ?_, below_putRow HB3.out _ _ (by omega)⟩
  exact Kd.R_mono (Kd.R_step (Kd.R_types HO.out HZ3.out.out (by decide)) (fun j hj _ => setRow_other _ _ _ _ hj.2)) (fun _ _ => trivial)
theorem impl_MapImage.calls (a0_0 : Int) (a0_1 : Int) (a0_2 : Int) (A0_3 : Option Addr) (c0_3 : Nat) (l0_3 : List Int) (A1 : Option Addr) (c1 : Nat) (l1 : List Int) (r1 : Int) (r2 : Int) (r3 : Int) (r4 : List Int) (r5 : Bool) (w : World) (hr0_3 : Kd.C (Kd.int .i64) w A0_3 l0_3.length l0_3) (hc0_3 : l0_3.length ≤ c0_3) (hr1 : Kd.C (Kd.int .i64) w A1 l1.length l1) (hc1 : l1.length ≤ c1) (h : impl_MapImage.f a0_0 a0_1 a0_2 l0_3 l1 = some (r1, r2, r3, r4, r5)) :
    Calls Try.prog 31 #[.agg #[.int .i64 a0_0, .int .i64 a0_1, .int .i64 a0_2, .slice A0_3 l0_3.length c0_3], .slice A1 l1.length c1] w fun e w' => ∃ v3_ : Value, e = .returned (.tuple #[.agg #[.int .i64 r1, .int .i64 r2, .int .i64 r3, v3_], .bool r5]) ∧ Kd.R (Kd.int .i64) 3 w' w.heap.size (fun _ => True) v3_ r4 ∧ Below w.heap.size w w' := by
  unfold impl_MapImage.f at h
  by_cases hk : MapOk a0_0 a0_1 a0_2 l0_3 l1
  · rw [if_pos hk] at h
    simp only [Option.some.injEq, Prod.mk.injEq] at h
    obtain ⟨rfl, rfl, rfl, rfl, rfl⟩ := h
    exact impl_MapImage.yes _ _ _ A0_3 c0_3 l0_3 A1 c1 l1 w hr0_3 hc0_3 hr1 hc1 hk
  · rw [if_neg hk] at h
    simp only [Option.some.injEq, Prod.mk.injEq] at h
    obtain ⟨rfl, rfl, rfl, rfl, rfl⟩ := h
    have hn : Calls Try.prog 31 #[.agg #[.int .i64 a0_0, .int .i64 a0_1, .int .i64 a0_2, .slice A0_3 l0_3.length c0_3], .slice A1 l1.length c1] w fun e w' => e = .returned (.tuple #[.agg #[.int .i64 0, .int .i64 0, .int .i64 0, .slice none 0 0], .bool false]) ∧ Below w.heap.size w w' := by
      by_cases h1 : ImgOk a0_0 a0_1 a0_2 l0_3
      · by_cases h2 : l1.length = 256
        · exact impl_MapImage.no3 _ _ _ A0_3 c0_3 l0_3 A1 c1 l1 w hr0_3 hc0_3 hr1 hc1 h1 h2 (fun h3 => hk ⟨h1, h2, h3⟩)
        · exact impl_MapImage.no2 _ _ _ A0_3 c0_3 l0_3 A1 c1 l1 w hr0_3 hc0_3 hr1 hc1 h1 h2
      · exact impl_MapImage.no1 _ _ _ A0_3 c0_3 l0_3 A1 c1 l1 w hr0_3 hc0_3 hr1 hc1 h1
    refine hn.mono ?_
    rintro e w1 ⟨rfl, hb⟩
    exact ⟨_, rfl, Kd.R_nil _ _ _ _ _, hb⟩

end Go.Proofs.Ytonolnojpejgnaa.Print
