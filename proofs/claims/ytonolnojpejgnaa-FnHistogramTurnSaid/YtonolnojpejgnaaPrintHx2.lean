-- laid by hp.py (a program of this work over the kit's print), with contracts by hand for what the print does not take
import Derived.Test.YtonolnojpejgnaaPrint0
import Derived.Test.YtonolnojpejgnaaPrintHimplimageBy
import Derived.Test.YtonolnojpejgnaaPrintHx0
import Derived.Test.YtonolnojpejgnaaPrintR0x0
import Derived.Test.YtonolnojpejgnaaPrintR1x0
import Derived.Test.YtonolnojpejgnaaPrintR1x2
namespace Go.Proofs.Ytonolnojpejgnaa.Print
open Go.RowKit Go.Proofs.YtonolnojpejgnaaW.PrintWords Go.Proofs.YtonolnojpejgnaaW.PrintLast Go.Proofs.YtonolnojpejgnaaW.PrintMore
attribute [local go_sem] max2_int min2_int max_two min_two max_three min_three max_four min_four   -- for this text's walks alone
set_option linter.unusedVariables false
set_option linter.unusedSimpArgs false

--SNIP hand_ImgOk
/-! ### Valid images -/
/-- A valid image. -/
def ImgOk (a b c : Int) (l : List Int) : Prop := (1 ≤ a ∧ a ≤ 16) ∧ (1 ≤ b ∧ b ≤ 16) ∧ (1 ≤ c ∧ c ≤ 4) ∧ (l.length : Int) = a * b * c ∧ ∀ x ∈ l, 0 ≤ x ∧ x ≤ 255
instance (a b c : Int) (l : List Int) : Decidable (ImgOk a b c l) := by unfold ImgOk; exact inferInstance
theorem shape_prod {a b c : Int} (ha : 1 ≤ a ∧ a ≤ 16) (hb : 1 ≤ b ∧ b ≤ 16) (hc : 1 ≤ c ∧ c ≤ 4) : 1 ≤ a * b ∧ a * b ≤ 256 ∧ 1 ≤ a * b * c ∧ a * b * c ≤ 1024 := by
  have h1 : a * b ≤ 16 * 16 := Int.mul_le_mul ha.2 hb.2 (by omega) (by omega)
  have h2 : 1 * 1 ≤ a * b := Int.mul_le_mul ha.1 hb.1 (by omega) (by omega)
  generalize a * b = m at *
  have h3 : m * c ≤ 256 * 4 := Int.mul_le_mul (by omega) hc.2 (by omega) (by omega)
  have h4 : 1 * 1 ≤ m * c := Int.mul_le_mul (by omega) hc.1 (by omega) (by omega)
  omega
theorem shape_wrap {a b c : Int} (ha : 1 ≤ a ∧ a ≤ 16) (hb : 1 ≤ b ∧ b ≤ 16) (hc : 1 ≤ c ∧ c ≤ 4) : wrap64 (wrap64 (a * b) * c) = a * b * c := by
  obtain ⟨h1, h2, h3, h4⟩ := shape_prod ha hb hc
  rw [wrapIn (x := a * b) (by omega) (by omega), wrapIn (by omega) (by omega)]
theorem ImgOk.len {a b c : Int} {l : List Int} (h : ImgOk a b c l) : 0 < l.length ∧ l.length ≤ 1024 := by
  obtain ⟨ha, hb, hc, hl, _⟩ := h
  obtain ⟨_, _, h3, h4⟩ := shape_prod ha hb hc
  omega
theorem impl_isSide.eq (a : Int) : impl_isSide.f a = some (decide (1 ≤ a ∧ a ≤ 16)) := by
  unfold impl_isSide.f
  by_cases h : 1 ≤ a
  · rw [if_pos h]; simp [h]
  · rw [if_neg h]; simp [h]
theorem impl_isShape.eq (a b c : Int) : impl_isShape.f a b c = some (decide ((1 ≤ a ∧ a ≤ 16) ∧ (1 ≤ b ∧ b ≤ 16) ∧ (1 ≤ c ∧ c ≤ 4))) := by
  unfold impl_isShape.f
  rw [impl_isSide.eq, impl_isSide.eq]
  simp only [Option.bind_some, decide_eq_true_eq]
  by_cases h1 : 1 ≤ a ∧ a ≤ 16
  · rw [if_pos h1]
    by_cases h2 : 1 ≤ b ∧ b ≤ 16
    · rw [if_pos h2]
      by_cases h3 : 1 ≤ c
      · rw [if_pos h3]; simp [h1, h2, h3]
      · rw [if_neg h3]; simp [h3]
    · rw [if_neg h2]; simp only [h2, false_and, and_false, decide_false]
  · rw [if_neg h1]; simp only [h1, false_and, decide_false]
theorem impl_areBytes.eq (l : List Int) : impl_areBytes.f l = some (decide (∀ x ∈ l, 0 ≤ x ∧ x ≤ 255)) := by
  unfold impl_areBytes.f
  congr 1
  rw [Bool.eq_iff_iff]
  simp only [Bool.not_eq_true', List.any_eq_false, decide_eq_true_eq]
  constructor
  · intro h x hx
    have := h x hx
    simp at this
    omega
  · intro h x hx
    have := h x hx
    simp
    omega
theorem impl_isImage.eq (a b c : Int) (l : List Int) : impl_isImage.f a b c l = some (decide (ImgOk a b c l)) := by
  unfold impl_isImage.f
  rw [impl_isShape.eq, impl_areBytes.eq]
  simp only [Option.bind_some, decide_eq_true_eq]
  by_cases h : (1 ≤ a ∧ a ≤ 16) ∧ (1 ≤ b ∧ b ≤ 16) ∧ (1 ≤ c ∧ c ≤ 4)
  · rw [if_pos h, shape_wrap h.1 h.2.1 h.2.2]
    by_cases h2 : (l.length : Int) = a * b * c
    · rw [if_pos h2]
      by_cases h3 : ∀ x ∈ l, 0 ≤ x ∧ x ≤ 255
      · rw [decide_eq_true h3, decide_eq_true (show ImgOk a b c l from ⟨h.1, h.2.1, h.2.2, h2, h3⟩)]
      · rw [decide_eq_false h3, decide_eq_false (fun hh : ImgOk a b c l => h3 hh.2.2.2.2)]
    · rw [if_neg h2, decide_eq_false (fun hh : ImgOk a b c l => h2 hh.2.2.2.1)]
  · rw [if_neg h, decide_eq_false (fun hh : ImgOk a b c l => h ⟨hh.1, hh.2.1, hh.2.2.1⟩)]
/-- The program's isImage, told by ImgOk. -/
theorem isImage_true {a b c : Int} {l : List Int} (h : ImgOk a b c l) (A : Option Addr) (k : Nat) (w : World) (hr : Kd.C (Kd.int .i64) w A l.length l) (hc : l.length ≤ k) :
    Calls Try.prog 47 #[.agg #[.int .i64 a, .int .i64 b, .int .i64 c, .slice A l.length k]] w fun e w' => e = .returned (.bool true) ∧ Below w.heap.size w w' :=
  impl_isImage.calls a b c A k l true w hr hc (by rw [impl_isImage.eq, decide_eq_true h])
theorem isImage_false {a b c : Int} {l : List Int} (h : ¬ ImgOk a b c l) (A : Option Addr) (k : Nat) (w : World) (hr : Kd.C (Kd.int .i64) w A l.length l) (hc : l.length ≤ k) :
    Calls Try.prog 47 #[.agg #[.int .i64 a, .int .i64 b, .int .i64 c, .slice A l.length k]] w fun e w' => e = .returned (.bool false) ∧ Below w.heap.size w w' :=
  impl_isImage.calls a b c A k l false w hr hc (by rw [impl_isImage.eq, decide_eq_false h])
theorem ImgOk.nats {a0 a1 a2 : Int} {l : List Int} (h : ImgOk a0 a1 a2 l) : ∃ W H p : Nat, a0 = W ∧ a1 = H ∧ a2 = p ∧ l.length = W * H * p ∧ 1 ≤ W ∧ 1 ≤ H ∧ 1 ≤ p ∧ W ≤ 16 ∧ H ≤ 16 ∧ p ≤ 4 := by
  obtain ⟨ha, hb, hc, hl, _⟩ := h
  obtain ⟨W, rfl⟩ := Int.eq_ofNat_of_zero_le (show 0 ≤ a0 by omega)
  obtain ⟨H, rfl⟩ := Int.eq_ofNat_of_zero_le (show 0 ≤ a1 by omega)
  obtain ⟨p, rfl⟩ := Int.eq_ofNat_of_zero_le (show 0 ≤ a2 by omega)
  refine ⟨W, H, p, rfl, rfl, rfl, ?_, by omega, by omega, by omega, by omega, by omega, by omega⟩
  have e : ((W * H * p : Nat) : Int) = (W : Int) * (H : Int) * (p : Int) := by push_cast; rfl
  omega

--SNIP impl_mapImage
theorem copyImage_f (a0 a1 a2 : Int) (l : List Int) (hl : l.length < 17592186044416) : impl_copyImage.f a0 a1 a2 l = some (a0, a1, a2, l) := by
  unfold impl_copyImage.f
  simp only [Option.bind_some, List.nil_append, List.length_nil]
  rw [if_pos (by omega)]
/-- A list of which the first k numbers are replaced. -/
def mapUpto (of : Int → Int) (l : List Int) (k : Nat) : List Int := (l.take k).map of ++ l.drop k
theorem mapUpto_zero (of : Int → Int) (l : List Int) : mapUpto of l 0 = l := by simp [mapUpto]
theorem mapUpto_all (of : Int → Int) (l : List Int) : mapUpto of l l.length = l.map of := by simp [mapUpto]
theorem mapUpto_length (of : Int → Int) (l : List Int) (k : Nat) (h : k ≤ l.length) : (mapUpto of l k).length = l.length := by simp [mapUpto]; omega
theorem mapUpto_rd (of : Int → Int) (l : List Int) (k : Nat) (h : k < l.length) : rdOf 0 (mapUpto of l k) (k : Int) = l[k] := by
  unfold mapUpto rdOf
  rw [Int.toNat_natCast, List.getD_eq_getElem?_getD, List.getElem?_append_right (by simp; omega)]
  have e : k - ((l.take k).map of).length = 0 := by rw [List.length_map, List.length_take]; omega
  rw [e, List.getElem?_drop, Nat.add_zero, List.getElem?_eq_getElem h]
  rfl
theorem mapUpto_set (of : Int → Int) (l : List Int) (k : Nat) (h : k < l.length) : (mapUpto of l k).set (k : Int).toNat (of l[k]) = mapUpto of l (k + 1) := by
  unfold mapUpto
  have e : ((l.take k).map of).length = k := by rw [List.length_map, List.length_take]; omega
  rw [Int.toNat_natCast, List.set_append_right _ _ (by omega), e, Nat.sub_self, List.drop_eq_getElem_cons h, List.set_cons_zero, List.take_succ_eq_append_getElem h, List.map_append, List.append_assoc]
  rfl
set_option maxHeartbeats 8000000 in
set_option maxRecDepth 100000 in
theorem impl_mapImage.any (K : FuncId) (fn : Func) (caps : Array Value) (of : Int → Int) (hK : Try.prog.funcs[K]? = some fn) (hname : (fn.name == "runtime.NumGoroutine") = false) (hb : fn.body.isSome = true)
    (a0 a1 a2 : Int) (A : Option Addr) (c : Nat) (l : List Int) (w : World) (hr : Kd.C (Kd.int .i64) w A l.length l) (hc : l.length ≤ c) (hl0 : 0 < l.length) (hl : l.length ≤ 4096)
    (hf : ∀ (x : Int) (w' : World), x ∈ l → Below w.heap.size w w' → Calls Try.prog K (#[.int .i64 x] ++ caps) w' fun e w'' => e = .returned (.int .i64 (of x)) ∧ Below w'.heap.size w' w'') :
    Calls Try.prog 51 #[.agg #[.int .i64 a0, .int .i64 a1, .int .i64 a2, .slice A l.length c], .func (.func K) #[] caps] w fun e w' =>
      ∃ v : Value, e = .returned (.agg #[.int .i64 a0, .int .i64 a1, .int .i64 a2, v]) ∧ Kd.R (Kd.int .i64) 3 w' w.heap.size (fun _ => True) v (l.map of) ∧ Below w.heap.size w w' := by
  have HF := Aside0.mk hf
  have hcall : ∀ (args : Array Value) (W : World), (callFunc K args).run Try.prog W = .ok (.enter K args) W := fun args W => enters_ hK hname hb args W
  have HC : Aside0 (∀ W : World, Below w.heap.size w W → Calls Try.prog 53 #[.agg #[.int .i64 a0, .int .i64 a1, .int .i64 a2, .slice A l.length c]] W fun e w' => ∃ v3_ : Value, e = .returned (.agg #[.int .i64 a0, .int .i64 a1, .int .i64 a2, v3_]) ∧ Kd.R (Kd.int .i64) 3 w' W.heap.size (fun _ => True) v3_ l ∧ Below W.heap.size W w') :=
    ⟨fun W hW => impl_copyImage.calls a0 a1 a2 A c l a0 a1 a2 l W (Kd.C_below hr hW) hc (copyImage_f a0 a1 a2 l (by omega))⟩
  have HL0 := Aside0.mk hl0
  clear hf hK hname hb hr hc hl0
  go_enter Try.func51, Try.ntmps51
  go_wp2_with (first
    | (refine wpList_box_img rfl _ rfl _ rfl ?_; (try simp only [wsize_alloc]))
    | (refine wpList_load_img rfl _ rfl w.heap.size a0 a1 a2 (.slice A l.length c) rfl (IsImg.old w a0 a1 a2 _ _) ?_)
    | (go_at_call 53; refine (HC.out _ (below_alloc (below_alloc (Below.refl _ _) _) _)).mono ?_; rintro e w1 ⟨v3, rfl, ho, hb1⟩; have HO1 := Aside0.mk (Kd.R_lower ho (below_size (below_alloc (below_alloc (Below.refl w.heap.size w) _) _))); have HB1 := Aside0.mk (below_step (below_alloc (below_alloc (Below.refl w.heap.size w) _) _) hb1); have HI0 := Aside0.mk (((IsImg.new (w.alloc _) 0 0 0 (.slice none 0 0))).below hb1); have HS1 := Aside0.mk hb1.size; clear hb1 ho; obtain ⟨g, cap, rfl, hg1, hg2, cells, hg3⟩ := Kd.R_form HO1.out HL0.out; have HG3 := Aside0.mk hg3; clear hg1 hg2 hg3)
    | (refine wpList_alloc_img rfl rfl ?_; (try simp only [wsize_alloc]))
    | (refine wpList_put_img rfl _ _ rfl a0 a1 a2 _ rfl rfl rfl ?_; intro w2 hb2 hi2 hs2; have HI2 := Aside0.mk hi2; have HI0 := Aside0.mk (HI0.out.below hb2); have HO2 := Aside0.mk (Kd.R_below HO1.out hb2); have HG2 := Aside0.mk ((hb2.block g (blk_lt HG3.out)).trans HG3.out); have HB2 := Aside0.mk (below_step HB1.out hb2); have hc3 := hi2.c3; have HS2 := Aside0.mk hs2; clear hb2 hi2 hs2 HB1 HG3 HO1))
  go_loopw [13] (fun i wr => ∃ k : Nat, k ≤ l.length ∧ i = .int .i64 k ∧ Aside0 (IsImg wr w1.heap.size a0 a1 a2 (.slice (some ⟨g, 0, none⟩) l.length cap)) ∧ Aside0 (IsImg wr (w.heap.size + 1) 0 0 0 (.slice none 0 0)) ∧ Aside0 (Kd.R (Kd.int .i64) 3 wr w.heap.size (fun _ => True) (.slice (some ⟨g, 0, none⟩) l.length cap) (mapUpto of l k)) ∧ Aside0 (Below w.heap.size w wr)) (fun i _ => l.length - (intOf i).toNat)
  case atStart => exact ⟨0, by omega, rfl, HI2, ⟨by have h := HI0.out; rw [wsize_alloc] at h; exact h⟩, ⟨by rw [mapUpto_zero]; exact HO2.out⟩, HB2⟩
  case round =>
    clear HI0 HI2 HO2 HB2 HG2 hc3 HS2
    obtain ⟨k, hk, rfl, HI, HZ, HO, HB⟩ := hrel
    by_cases hlt : k < l.length
    · obtain ⟨wo, rfl⟩ : ∃ wo : World, wo = wr := ⟨_, rfl⟩
      have hdk : decide (k < l.length) = true := decide_eq_true hlt
      have hdi : decide ((k : Int) < (l.length : Int)) = true := decide_eq_true (by omega)
      have hg := (Kd.R_celln 0 HO.out (k : Int) (by omega) (by omega)).1
      rw [mapUpto_rd of l k hlt, Int.toNat_natCast] at hg
      have hc3 := HI.out.c3
      have hmem := Aside0.mk (List.getElem_mem hlt)
      have HM := Aside0.mk (mapUpto_set of l k hlt)
      generalize l[k] = lk at hg hmem HM
      have hdl : ((mapUpto of l k).length = l.length) := mapUpto_length of l k hk
      have HD := Aside0.mk hdl
      clear hdl
      go_wp2_with fail
      go_region_with (refine (HF.out lk _ hmem.out (below_drew HB.out)).mono ?_; rintro e w3 ⟨rfl, hb⟩; have HI3 := Aside0.mk (HI.out.drew.below hb); have HZ3 := Aside0.mk (HZ.out.drew.below hb); have HO3 := Aside0.mk (Kd.R_below (Kd.R_drew HO.out) hb); have HB3 := Aside0.mk (below_step (below_drew HB.out) hb); have hc3' := HI3.out.c3; have hg' := (Kd.R_celln 0 HO3.out (k : Int) (by omega) (by omega)).1; have hf' := (Kd.R_celln 0 HO3.out (k : Int) (by omega) (by omega)).2; clear HB; rw [Int.toNat_natCast] at hg' hf')
      all_goals
        have hP := Kd.R_putg HO3.out (k : Int) (of lk)
        rw [HM.out, Int.toNat_natCast] at hP
        have HI4 := Aside0.mk (HI3.out.grown hP.2 (Kd.R_ne HO3.out HI3.out.out (by decide)))
        have HZ4 := Aside0.mk (HZ3.out.grown hP.2 (Kd.R_ne HO3.out HZ3.out.out (by decide)))
        have HB4 := Aside0.mk (below_set (v := .int .i64 (of lk)) (j := k) HB3.out (Kd.R_base HO3.out g rfl))
        have HO4 := Aside0.mk hP.1
        clear hP hg hc3 hc3' hg' hf' HI3 HZ3 HB3 HO3 hb HM hmem HD
        go_wp2
        go_roundw
        case rel => exact ⟨k + 1, by omega, by go_num, HI4, HZ4, HO4, HB4⟩
        case measure => simp [intOf]; omega
    · have hk' : k = l.length := by omega
      subst hk'
      have hdk : decide ((l.length : Int) < (l.length : Int)) = false := decide_eq_false (by omega)
      go_wp2_with (first | (refine wpList_load_img rfl _ rfl w1.heap.size a0 a1 a2 _ rfl HI.out ?_) | (refine wpList_store_img rfl _ _ rfl (w.heap.size + 1) 0 0 0 a0 a1 a2 _ _ rfl rfl rfl HZ.out ?_))
      refine bodyPost_ret (results_cell_row rfl _ _ (w.heap.size + 1) _ _ _ _ rfl (HZ.out.row a0 a1 a2 _).out Try.underlying27 rfl img_size) rfl ⟨_, rfl, ?_, ?_⟩
      · have h := HO.out
        rw [mapUpto_all] at h
        exact Kd.R_step (Kd.R_types h HZ.out.out (by decide)) (fun j hj _ => setRow_other _ _ _ _ hj.2) |> fun h => Kd.R_mono h (fun _ _ => trivial)
      · exact below_putRow HB.out _ _ (Nat.le_succ _)

--SNIP impl_MirrorImage
/-! ### impl_MirrorImage: function 29, by hand -/
set_option maxHeartbeats 8000000 in
set_option maxRecDepth 100000 in
theorem impl_MirrorImage_1.any (x y W H p : Nat) (hx : x < W) (hy : y < H) (A : Option Addr) (c : Nat) (l : List Int) (b : Nat) (w : World) (hI : IsImg w b W H p (.slice A l.length c)) (hr : Kd.C (Kd.int .i64) w A l.length l) (hc : l.length ≤ c) (hl : l.length = W * H * p) (hW0 : 1 ≤ W) (hH0 : 1 ≤ H) (hp0 : 1 ≤ p) (hW : W ≤ 16) (hH : H ≤ 16) (hp : p ≤ 4) :
    Calls Try.prog 57 #[.int .i64 x, .int .i64 y, .pointer (some ⟨b, 0, none⟩)] w fun e w' => ∃ (A' : Option Addr) (c' : Nat), e = .returned (.slice A' (pixN W p l (W - 1 - x) y).length c') ∧ Kd.C (Kd.int .i64) w' A' (pixN W p l (W - 1 - x) y).length (pixN W p l (W - 1 - x) y) ∧ Below w.heap.size w w' := by
  have HAT : Aside0 (∀ (u v : Nat) (w1 : World), u < W → v < H → Below w.heap.size w w1 → Calls Try.prog 56 #[.agg #[.int .i64 W, .int .i64 H, .int .i64 p, .slice A l.length c], .int .i64 u, .int .i64 v] w1 fun e w' => ∃ (A' : Option Addr) (c' : Nat), e = .returned (.slice A' (pixN W p l u v).length c') ∧ Kd.C (Kd.int .i64) w' A' (pixN W p l u v).length (pixN W p l u v) ∧ (pixN W p l u v).length ≤ c' ∧ Below w1.heap.size w1 w') := ⟨fun u v w1 hu hv hb => impl_Image_at.any W H p A c l u v w1 (Kd.C_below hr hb) hc hl hW hH hp hu hv⟩
  have hu := Try.underlying27
  have g1 : (W : Int) - 1 - (x : Int) = ((W - 1 - x : Nat) : Int) := by omega
  have g2 : IntKind.i64.wrap ((W : Int) - 1) = (W : Int) - 1 := IntWalk.i64_in _ (by omega)
  have g3 : IntKind.i64.wrap ((W : Int) - 1 - (x : Int)) = ((W - 1 - x : Nat) : Int) := by rw [IntWalk.i64_in _ (by omega)]; exact g1
  have hc0 := hI.c0
  have HI0 := Aside0.mk hI
  clear hr hc hl hI
  go_enter Try.func57, Try.ntmps57
  go_wp2_with (first
    | (refine wpList_load_img rfl _ rfl b W H p _ rfl HI0.out ?_)
    | (go_at_call 56; refine (HAT.out (W - 1 - x) y _ (by omega) hy (Below.refl _ _)).mono ?_; rintro e w2 ⟨A2, c2, rfl, hC2, hcap2, hb2⟩))
  go_ret
  exact ⟨_, _, rfl, hC2, hb2⟩
def impl_MirrorImage.f (a0_0 : Int) (a0_1 : Int) (a0_2 : Int) (l0_3 : List Int) : Option (Int × Int × Int × List Int) := some (if ImgOk a0_0 a0_1 a0_2 l0_3 then (a0_0, a0_1, a0_2, pixelsUpto (fun x y => pixN a0_0.toNat a0_2.toNat l0_3 (a0_0.toNat - 1 - x) y) a0_0.toNat (a0_0.toNat * a0_1.toNat)) else (0, 0, 0, []))
set_option maxHeartbeats 8000000 in
set_option maxRecDepth 100000 in
theorem impl_MirrorImage.no1 (a0 a1 a2 : Int) (A : Option Addr) (c : Nat) (l : List Int) (w : World) (hr : Kd.C (Kd.int .i64) w A l.length l) (hc : l.length ≤ c) (h : ¬ ImgOk a0 a1 a2 l) :
    Calls Try.prog 29 #[.agg #[.int .i64 a0, .int .i64 a1, .int .i64 a2, .slice A l.length c]] w fun e w' => e = .returned (.agg #[.int .i64 0, .int .i64 0, .int .i64 0, .slice none 0 0]) ∧ Below w.heap.size w w' := by
  have HV : Aside0 (∀ W' : World, Below w.heap.size w W' → Calls Try.prog 47 #[.agg #[.int .i64 a0, .int .i64 a1, .int .i64 a2, .slice A l.length c]] W' fun e w' => e = .returned (.bool false) ∧ Below W'.heap.size W' w') := ⟨fun W' hW => isImage_false h A c W' (Kd.C_below hr hW) hc⟩
  have HB0 := Aside0.mk (allocs_below [.cells #[.int .i64 a0, .int .i64 a1, .int .i64 a2, .slice A l.length c] 27, .cells #[.int .i64 0, .int .i64 0, .int .i64 0, .slice none 0 0] 27] w)
  have HI0 : Aside0 (IsImg (allocs w [.cells #[.int .i64 a0, .int .i64 a1, .int .i64 a2, .slice A l.length c] 27, .cells #[.int .i64 0, .int .i64 0, .int .i64 0, .slice none 0 0] 27]) w.heap.size a0 a1 a2 (.slice A l.length c)) := ⟨allocs_img _ w 0 _ _ _ _ rfl⟩
  have HZ0 : Aside0 (IsImg (allocs w [.cells #[.int .i64 a0, .int .i64 a1, .int .i64 a2, .slice A l.length c] 27, .cells #[.int .i64 0, .int .i64 0, .int .i64 0, .slice none 0 0] 27]) (w.heap.size + 1) 0 0 0 (.slice none 0 0)) := ⟨allocs_img _ w 1 _ _ _ _ rfl⟩
  have hu := Try.underlying27
  clear hr hc h
  go_enter Try.func29, Try.ntmps29
  go_wp2_with (first
    | (refine wpList_load_img rfl _ rfl w.heap.size a0 a1 a2 _ rfl HI0.out ?_)
    | (go_at_call 47; refine (HV.out _ HB0.out).mono ?_; rintro e w1 ⟨rfl, hb⟩; have HI1 := Aside0.mk (HI0.out.below hb); have hc0_1 := HI1.out.c0; have hc1_1 := HI1.out.c1; have hc2_1 := HI1.out.c2; have HZ1 := Aside0.mk (HZ0.out.below hb); have HB1 := Aside0.mk (below_step HB0.out hb); clear hb)
    | (refine wpList_store_img rfl _ _ rfl _ 0 0 0 0 0 0 _ _ rfl rfl rfl HZ1.out ?_))
  refine bodyPost_ret (results_cell_row rfl _ _ (w.heap.size + 1) _ _ _ _ rfl (HZ1.out.row 0 0 0 _).out Try.underlying27 rfl img_size) rfl ⟨rfl, below_putRow HB1.out _ _ (by omega)⟩
set_option maxHeartbeats 8000000 in
set_option maxRecDepth 100000 in
theorem impl_MirrorImage.yes (W H p : Nat) (A : Option Addr) (c : Nat) (l : List Int) (w : World) (hr : Kd.C (Kd.int .i64) w A l.length l) (hc : l.length ≤ c) (h : ImgOk W H p l) (hl : l.length = W * H * p) (hW0 : 1 ≤ W) (hH0 : 1 ≤ H) (hp0 : 1 ≤ p) (hW1 : W ≤ 16) (hH1 : H ≤ 16) (hp1 : p ≤ 4) :
    Calls Try.prog 29 #[.agg #[.int .i64 W, .int .i64 H, .int .i64 p, .slice A l.length c]] w fun e w' => ∃ v : Value, e = .returned (.agg #[.int .i64 W, .int .i64 H, .int .i64 p, v]) ∧ Kd.R (Kd.int .i64) 3 w' w.heap.size (fun _ => True) v (pixelsUpto (fun x y => pixN W p l (W - 1 - x) y) W (W * H)) ∧ Below w.heap.size w w' := by
  have HV : Aside0 (∀ W' : World, Below w.heap.size w W' → Calls Try.prog 47 #[.agg #[.int .i64 W, .int .i64 H, .int .i64 p, .slice A l.length c]] W' fun e w' => e = .returned (.bool true) ∧ Below W'.heap.size W' w') := ⟨fun W' hW => isImage_true h A c W' (Kd.C_below hr hW) hc⟩
  have HM : Aside0 (∀ W' : World, Below w.heap.size w W' → IsImg W' w.heap.size W H p (.slice A l.length c) → Calls Try.prog 54 #[.int .i64 (W : Nat), .int .i64 (H : Nat), .int .i64 p, .func (.func 57) #[] #[.pointer (some ⟨w.heap.size, 0, none⟩)]] W' fun e w' => ∃ v : Value, e = .returned (.agg #[.int .i64 (W : Nat), .int .i64 (H : Nat), .int .i64 p, v]) ∧ Kd.R (Kd.int .i64) 3 w' W'.heap.size (fun _ => True) v (pixelsUpto (fun x y => pixN W p l (W - 1 - x) y) (W) ((W) * (H))) ∧ Below W'.heap.size W' w') :=
    ⟨fun W' hW hI => impl_imageBy.any 57 _ #[.pointer (some ⟨w.heap.size, 0, none⟩)] (fun x y => pixN W p l (W - 1 - x) y) Try.func57 (by kernel_rfl) rfl (W) (H) p W' (by omega) (by omega) (fun x y hx hy => by rw [pixN_length (show W - 1 - x < W by omega) hy hl]; omega) (fun x y w' hx hy hb => (impl_MirrorImage_1.any x y W H p hx hy A c l w.heap.size w' (hI.below hb) (Kd.C_below hr (below_step hW hb)) hc hl hW0 hH0 hp0 hW1 hH1 hp1))⟩
  have HB0 := Aside0.mk (allocs_below [.cells #[.int .i64 W, .int .i64 H, .int .i64 p, .slice A l.length c] 27, .cells #[.int .i64 0, .int .i64 0, .int .i64 0, .slice none 0 0] 27] w)
  have HI0 : Aside0 (IsImg (allocs w [.cells #[.int .i64 W, .int .i64 H, .int .i64 p, .slice A l.length c] 27, .cells #[.int .i64 0, .int .i64 0, .int .i64 0, .slice none 0 0] 27]) w.heap.size W H p (.slice A l.length c)) := ⟨allocs_img _ w 0 _ _ _ _ rfl⟩
  have HZ0 : Aside0 (IsImg (allocs w [.cells #[.int .i64 W, .int .i64 H, .int .i64 p, .slice A l.length c] 27, .cells #[.int .i64 0, .int .i64 0, .int .i64 0, .slice none 0 0] 27]) (w.heap.size + 1) 0 0 0 (.slice none 0 0)) := ⟨allocs_img _ w 1 _ _ _ _ rfl⟩
  have hu := Try.underlying27
  clear hr hc h hl
  go_enter Try.func29, Try.ntmps29
  go_wp2_with (first
    | (refine wpList_load_img rfl _ rfl w.heap.size W H p _ rfl HI0.out ?_)
    | (go_at_call 47; refine (HV.out _ HB0.out).mono ?_; rintro e w1 ⟨rfl, hb⟩; have HI1 := Aside0.mk (HI0.out.below hb); have hc0_1 := HI1.out.c0; have hc1_1 := HI1.out.c1; have hc2_1 := HI1.out.c2; have HZ1 := Aside0.mk (HZ0.out.below hb); have HB1 := Aside0.mk (below_step HB0.out hb); clear hb)
    | (refine wpList_load_img rfl _ rfl w.heap.size W H p _ rfl HI1.out ?_)
    | (go_at_call 54; refine (HM.out _ HB1.out HI1.out).mono ?_; rintro e w2 ⟨v, rfl, ho, hb⟩; have HZ2 := Aside0.mk (HZ1.out.below hb); have HO := Aside0.mk (Kd.R_lower ho (below_size HB1.out)); have HB2 := Aside0.mk (below_step HB1.out hb); clear hb ho; have H1 := Aside0.mk (own_one HO.out))
    | (refine wpList_store_img rfl _ _ rfl _ 0 0 0 W H p _ _ rfl rfl H1.out HZ2.out ?_))
  refine bodyPost_ret (results_cell_row rfl _ _ (w.heap.size + 1) _ _ _ _ rfl (HZ2.out.row W H p _).out Try.underlying27 rfl img_size) rfl ⟨v, rfl, ?_, below_putRow HB2.out _ _ (by omega)⟩
  exact Kd.R_mono (Kd.R_step (Kd.R_types HO.out HZ2.out.out (by decide)) (fun j hj _ => setRow_other _ _ _ _ hj.2)) (fun _ _ => trivial)
theorem impl_MirrorImage.calls (a0_0 : Int) (a0_1 : Int) (a0_2 : Int) (A0_3 : Option Addr) (c0_3 : Nat) (l0_3 : List Int)  (r1 : Int) (r2 : Int) (r3 : Int) (r4 : List Int) (w : World) (hr0_3 : Kd.C (Kd.int .i64) w A0_3 l0_3.length l0_3) (hc0_3 : l0_3.length ≤ c0_3) (h : impl_MirrorImage.f a0_0 a0_1 a0_2 l0_3  = some (r1, r2, r3, r4)) :
    Calls Try.prog 29 #[.agg #[.int .i64 a0_0, .int .i64 a0_1, .int .i64 a0_2, .slice A0_3 l0_3.length c0_3]] w fun e w' => ∃ v3_ : Value, e = .returned (.agg #[.int .i64 r1, .int .i64 r2, .int .i64 r3, v3_]) ∧ Kd.R (Kd.int .i64) 3 w' w.heap.size (fun _ => True) v3_ r4 ∧ Below w.heap.size w w' := by
  unfold impl_MirrorImage.f at h
  by_cases hk : ImgOk a0_0 a0_1 a0_2 l0_3
  · rw [if_pos hk] at h
    simp only [Option.some.injEq, Prod.mk.injEq] at h
    obtain ⟨rfl, rfl, rfl, rfl⟩ := h
    have hi := hk
    obtain ⟨W, H, p, rfl, rfl, rfl, hl, b1, b2, b3, b4, b5, b6⟩ := hi.nats
    exact impl_MirrorImage.yes W H p A0_3 c0_3 l0_3 w hr0_3 hc0_3 hi hl b1 b2 b3 b4 b5 b6
  · rw [if_neg hk] at h
    simp only [Option.some.injEq, Prod.mk.injEq] at h
    obtain ⟨rfl, rfl, rfl, rfl⟩ := h
    have hn : Calls Try.prog 29 #[.agg #[.int .i64 a0_0, .int .i64 a0_1, .int .i64 a0_2, .slice A0_3 l0_3.length c0_3]] w fun e w' => e = .returned (.agg #[.int .i64 0, .int .i64 0, .int .i64 0, .slice none 0 0]) ∧ Below w.heap.size w w' := by
      exact impl_MirrorImage.no1 _ _ _ A0_3 c0_3 l0_3 w hr0_3 hc0_3 hk
    refine hn.mono ?_
    rintro e w1 ⟨rfl, hb⟩
    exact ⟨_, rfl, Kd.R_nil _ _ _ _ _, hb⟩

end Go.Proofs.Ytonolnojpejgnaa.Print
