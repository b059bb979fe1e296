-- laid by hp.py (a program of this work over the kit's print), with contracts by hand for what the print does not take
import Derived.Test.YtfljcejkgdkkeaaPrint0
import Derived.Test.YtfljcejkgdkkeaaPrintHx0
import Derived.Test.YtfljcejkgdkkeaaPrintR0x0
import Derived.Test.YtfljcejkgdkkeaaPrintR1x1
import Derived.Test.YtfljcejkgdkkeaaPrintR1x2
namespace Go.Proofs.Ytfljcejkgdkkeaa.Print
open Go.RowKit Go.Proofs.YtfljcejkgdkkeaaW.PrintWords Go.Proofs.YtfljcejkgdkkeaaW.PrintLast Go.Proofs.YtfljcejkgdkkeaaW.PrintMore
attribute [local go_sem] max2_int min2_int max_two min_two max_three min_three max_four min_four   -- for this text's walks alone
set_option linter.unusedVariables false
set_option linter.unusedSimpArgs false

--SNIP hand_ImgOk
/-! ### Valid images -/
/-- A valid image. -/
def ImgOk (a b c : Int) (l : List Int) : Prop := (1 ≤ a ∧ a ≤ 16) ∧ (1 ≤ b ∧ b ≤ 16) ∧ (1 ≤ c ∧ c ≤ 4) ∧ (l.length : Int) = a * b * c ∧ ∀ x ∈ l, 0 ≤ x ∧ x ≤ 255
instance (a b c : Int) (l : List Int) : Decidable (ImgOk a b c l) := by unfold ImgOk; exact inferInstance
theorem shape_prod {a b c : Int} (ha : 1 ≤ a ∧ a ≤ 16) (hb : 1 ≤ b ∧ b ≤ 16) (hc : 1 ≤ c ∧ c ≤ 4) : 1 ≤ a * b ∧ a * b ≤ 256 ∧ 1 ≤ a * b * c ∧ a * b * c ≤ 1024 := by
  have h1 : a * b ≤ 16 * 16 := Int.mul_le_mul ha.2 hb.2 (by omega) (by omega)
  have h2 : 1 * 1 ≤ a * b := Int.mul_le_mul ha.1 hb.1 (by omega) (by omega)
  generalize a * b = m at *
  have h3 : m * c ≤ 256 * 4 := Int.mul_le_mul (by omega) hc.2 (by omega) (by omega)
  have h4 : 1 * 1 ≤ m * c := Int.mul_le_mul (by omega) hc.1 (by omega) (by omega)
  omega
theorem shape_wrap {a b c : Int} (ha : 1 ≤ a ∧ a ≤ 16) (hb : 1 ≤ b ∧ b ≤ 16) (hc : 1 ≤ c ∧ c ≤ 4) : wrap64 (wrap64 (a * b) * c) = a * b * c := by
  obtain ⟨h1, h2, h3, h4⟩ := shape_prod ha hb hc
  rw [wrapIn (x := a * b) (by omega) (by omega), wrapIn (by omega) (by omega)]
theorem ImgOk.len {a b c : Int} {l : List Int} (h : ImgOk a b c l) : 0 < l.length ∧ l.length ≤ 1024 := by
  obtain ⟨ha, hb, hc, hl, _⟩ := h
  obtain ⟨_, _, h3, h4⟩ := shape_prod ha hb hc
  omega
theorem impl_isSide.eq (a : Int) : impl_isSide.f a = some (decide (1 ≤ a ∧ a ≤ 16)) := by
  unfold impl_isSide.f
  by_cases h : 1 ≤ a
  · rw [if_pos h]; simp [h]
  · rw [if_neg h]; simp [h]
theorem impl_isShape.eq (a b c : Int) : impl_isShape.f a b c = some (decide ((1 ≤ a ∧ a ≤ 16) ∧ (1 ≤ b ∧ b ≤ 16) ∧ (1 ≤ c ∧ c ≤ 4))) := by
  unfold impl_isShape.f
  rw [impl_isSide.eq, impl_isSide.eq]
  simp only [Option.bind_some, decide_eq_true_eq]
  by_cases h1 : 1 ≤ a ∧ a ≤ 16
  · rw [if_pos h1]
    by_cases h2 : 1 ≤ b ∧ b ≤ 16
    · rw [if_pos h2]
      by_cases h3 : 1 ≤ c
      · rw [if_pos h3]; simp [h1, h2, h3]
      · rw [if_neg h3]; simp [h3]
    · rw [if_neg h2]; simp only [h2, false_and, and_false, decide_false]
  · rw [if_neg h1]; simp only [h1, false_and, decide_false]
theorem impl_areBytes.eq (l : List Int) : impl_areBytes.f l = some (decide (∀ x ∈ l, 0 ≤ x ∧ x ≤ 255)) := by
  unfold impl_areBytes.f
  congr 1
  rw [Bool.eq_iff_iff]
  simp only [Bool.not_eq_true', List.any_eq_false, decide_eq_true_eq]
  constructor
  · intro h x hx
    have := h x hx
    simp at this
    omega
  · intro h x hx
    have := h x hx
    simp
    omega
theorem impl_isImage.eq (a b c : Int) (l : List Int) : impl_isImage.f a b c l = some (decide (ImgOk a b c l)) := by
  unfold impl_isImage.f
  rw [impl_isShape.eq, impl_areBytes.eq]
  simp only [Option.bind_some, decide_eq_true_eq]
  by_cases h : (1 ≤ a ∧ a ≤ 16) ∧ (1 ≤ b ∧ b ≤ 16) ∧ (1 ≤ c ∧ c ≤ 4)
  · rw [if_pos h, shape_wrap h.1 h.2.1 h.2.2]
    by_cases h2 : (l.length : Int) = a * b * c
    · rw [if_pos h2]
      by_cases h3 : ∀ x ∈ l, 0 ≤ x ∧ x ≤ 255
      · rw [decide_eq_true h3, decide_eq_true (show ImgOk a b c l from ⟨h.1, h.2.1, h.2.2, h2, h3⟩)]
      · rw [decide_eq_false h3, decide_eq_false (fun hh : ImgOk a b c l => h3 hh.2.2.2.2)]
    · rw [if_neg h2, decide_eq_false (fun hh : ImgOk a b c l => h2 hh.2.2.2.1)]
  · rw [if_neg h, decide_eq_false (fun hh : ImgOk a b c l => h ⟨hh.1, hh.2.1, hh.2.2.1⟩)]
/-- The program's isImage, told by ImgOk. -/
theorem isImage_true {a b c : Int} {l : List Int} (h : ImgOk a b c l) (A : Option Addr) (k : Nat) (w : World) (hr : Kd.C (Kd.int .i64) w A l.length l) (hc : l.length ≤ k) :
    Calls Try.prog 10 #[.agg #[.int .i64 a, .int .i64 b, .int .i64 c, .slice A l.length k]] w fun e w' => e = .returned (.bool true) ∧ Below w.heap.size w w' :=
  impl_isImage.calls a b c A k l true w hr hc (by rw [impl_isImage.eq, decide_eq_true h])
theorem isImage_false {a b c : Int} {l : List Int} (h : ¬ ImgOk a b c l) (A : Option Addr) (k : Nat) (w : World) (hr : Kd.C (Kd.int .i64) w A l.length l) (hc : l.length ≤ k) :
    Calls Try.prog 10 #[.agg #[.int .i64 a, .int .i64 b, .int .i64 c, .slice A l.length k]] w fun e w' => e = .returned (.bool false) ∧ Below w.heap.size w w' :=
  impl_isImage.calls a b c A k l false w hr hc (by rw [impl_isImage.eq, decide_eq_false h])
theorem ImgOk.nats {a0 a1 a2 : Int} {l : List Int} (h : ImgOk a0 a1 a2 l) : ∃ W H p : Nat, a0 = W ∧ a1 = H ∧ a2 = p ∧ l.length = W * H * p ∧ 1 ≤ W ∧ 1 ≤ H ∧ 1 ≤ p ∧ W ≤ 16 ∧ H ≤ 16 ∧ p ≤ 4 := by
  obtain ⟨ha, hb, hc, hl, _⟩ := h
  obtain ⟨W, rfl⟩ := Int.eq_ofNat_of_zero_le (show 0 ≤ a0 by omega)
  obtain ⟨H, rfl⟩ := Int.eq_ofNat_of_zero_le (show 0 ≤ a1 by omega)
  obtain ⟨p, rfl⟩ := Int.eq_ofNat_of_zero_le (show 0 ≤ a2 by omega)
  refine ⟨W, H, p, rfl, rfl, rfl, ?_, by omega, by omega, by omega, by omega, by omega, by omega⟩
  have e : ((W * H * p : Nat) : Int) = (W : Int) * (H : Int) * (p : Int) := by push_cast; rfl
  omega

--SNIP impl_mapImage
theorem copyImage_f (a0 a1 a2 : Int) (l : List Int) (hl : l.length < 17592186044416) : impl_copyImage.f a0 a1 a2 l = some (a0, a1, a2, l) := by
  unfold impl_copyImage.f
  simp only [Option.bind_some, List.nil_append, List.length_nil]
  rw [if_pos (by omega)]
/-- A list of which the first k numbers are replaced. -/
def mapUpto (of : Int → Int) (l : List Int) (k : Nat) : List Int := (l.take k).map of ++ l.drop k
theorem mapUpto_zero (of : Int → Int) (l : List Int) : mapUpto of l 0 = l := by simp [mapUpto]
theorem mapUpto_all (of : Int → Int) (l : List Int) : mapUpto of l l.length = l.map of := by simp [mapUpto]
theorem mapUpto_length (of : Int → Int) (l : List Int) (k : Nat) (h : k ≤ l.length) : (mapUpto of l k).length = l.length := by simp [mapUpto]; omega
theorem mapUpto_rd (of : Int → Int) (l : List Int) (k : Nat) (h : k < l.length) : rdOf 0 (mapUpto of l k) (k : Int) = l[k] := by
  unfold mapUpto rdOf
  rw [Int.toNat_natCast, List.getD_eq_getElem?_getD, List.getElem?_append_right (by simp; omega)]
  have e : k - ((l.take k).map of).length = 0 := by rw [List.length_map, List.length_take]; omega
  rw [e, List.getElem?_drop, Nat.add_zero, List.getElem?_eq_getElem h]
  rfl
theorem mapUpto_set (of : Int → Int) (l : List Int) (k : Nat) (h : k < l.length) : (mapUpto of l k).set (k : Int).toNat (of l[k]) = mapUpto of l (k + 1) := by
  unfold mapUpto
  have e : ((l.take k).map of).length = k := by rw [List.length_map, List.length_take]; omega
  rw [Int.toNat_natCast, List.set_append_right _ _ (by omega), e, Nat.sub_self, List.drop_eq_getElem_cons h, List.set_cons_zero, List.take_succ_eq_append_getElem h, List.map_append, List.append_assoc]
  rfl
set_option maxHeartbeats 8000000 in
set_option maxRecDepth 100000 in
theorem impl_mapImage.any (K : FuncId) (fn : Func) (caps : Array Value) (of : Int → Int) (hK : Try.prog.funcs[K]? = some fn) (hname : (fn.name == "runtime.NumGoroutine") = false) (hb : fn.body.isSome = true)
    (a0 a1 a2 : Int) (A : Option Addr) (c : Nat) (l : List Int) (w : World) (hr : Kd.C (Kd.int .i64) w A l.length l) (hc : l.length ≤ c) (hl0 : 0 < l.length) (hl : l.length ≤ 4096)
    (hf : ∀ (x : Int) (w' : World), x ∈ l → Below w.heap.size w w' → Calls Try.prog K (#[.int .i64 x] ++ caps) w' fun e w'' => e = .returned (.int .i64 (of x)) ∧ Below w'.heap.size w' w'') :
    Calls Try.prog 14 #[.agg #[.int .i64 a0, .int .i64 a1, .int .i64 a2, .slice A l.length c], .func (.func K) #[] caps] w fun e w' =>
      ∃ v : Value, e = .returned (.agg #[.int .i64 a0, .int .i64 a1, .int .i64 a2, v]) ∧ Kd.R (Kd.int .i64) 3 w' w.heap.size (fun _ => True) v (l.map of) ∧ Below w.heap.size w w' := by
  have HF := Aside0.mk hf
  have hcall : ∀ (args : Array Value) (W : World), (callFunc K args).run Try.prog W = .ok (.enter K args) W := fun args W => enters_ hK hname hb args W
  have HC : Aside0 (∀ W : World, Below w.heap.size w W → Calls Try.prog 13 #[.agg #[.int .i64 a0, .int .i64 a1, .int .i64 a2, .slice A l.length c]] W fun e w' => ∃ v3_ : Value, e = .returned (.agg #[.int .i64 a0, .int .i64 a1, .int .i64 a2, v3_]) ∧ Kd.R (Kd.int .i64) 3 w' W.heap.size (fun _ => True) v3_ l ∧ Below W.heap.size W w') :=
    ⟨fun W hW => impl_copyImage.calls a0 a1 a2 A c l a0 a1 a2 l W (Kd.C_below hr hW) hc (copyImage_f a0 a1 a2 l (by omega))⟩
  have HL0 := Aside0.mk hl0
  clear hf hK hname hb hr hc hl0
  go_enter Try.func14, Try.ntmps14
  go_wp2_with (first
    | (refine wpList_box_img rfl _ rfl _ rfl ?_; (try simp only [wsize_alloc]))
    | (refine wpList_load_img rfl _ rfl w.heap.size a0 a1 a2 (.slice A l.length c) rfl (IsImg.old w a0 a1 a2 _ _) ?_)
    | (go_at_call 13; refine (HC.out _ (below_alloc (below_alloc (Below.refl _ _) _) _)).mono ?_; rintro e w1 ⟨v3, rfl, ho, hb1⟩; have HO1 := Aside0.mk (Kd.R_lower ho (below_size (below_alloc (below_alloc (Below.refl w.heap.size w) _) _))); have HB1 := Aside0.mk (below_step (below_alloc (below_alloc (Below.refl w.heap.size w) _) _) hb1); have HI0 := Aside0.mk (((IsImg.new (w.alloc _) 0 0 0 (.slice none 0 0))).below hb1); have HS1 := Aside0.mk hb1.size; clear hb1 ho; obtain ⟨g, cap, rfl, hg1, hg2, cells, hg3⟩ := Kd.R_form HO1.out HL0.out; have HG3 := Aside0.mk hg3; clear hg1 hg2 hg3)
    | (refine wpList_alloc_img rfl rfl ?_; (try simp only [wsize_alloc]))
    | (refine wpList_put_img rfl _ _ rfl a0 a1 a2 _ rfl rfl rfl ?_; intro w2 hb2 hi2 hs2; have HI2 := Aside0.mk hi2; have HI0 := Aside0.mk (HI0.out.below hb2); have HO2 := Aside0.mk (Kd.R_below HO1.out hb2); have HG2 := Aside0.mk ((hb2.block g (blk_lt HG3.out)).trans HG3.out); have HB2 := Aside0.mk (below_step HB1.out hb2); have hc3 := hi2.c3; have HS2 := Aside0.mk hs2; clear hb2 hi2 hs2 HB1 HG3 HO1))
  go_loopw [13] (fun i wr => ∃ k : Nat, k ≤ l.length ∧ i = .int .i64 k ∧ Aside0 (IsImg wr w1.heap.size a0 a1 a2 (.slice (some ⟨g, 0, none⟩) l.length cap)) ∧ Aside0 (IsImg wr (w.heap.size + 1) 0 0 0 (.slice none 0 0)) ∧ Aside0 (Kd.R (Kd.int .i64) 3 wr w.heap.size (fun _ => True) (.slice (some ⟨g, 0, none⟩) l.length cap) (mapUpto of l k)) ∧ Aside0 (Below w.heap.size w wr)) (fun i _ => l.length - (intOf i).toNat)
  case atStart => exact ⟨0, by omega, rfl, HI2, ⟨by have h := HI0.out; rw [wsize_alloc] at h; exact h⟩, ⟨by rw [mapUpto_zero]; exact HO2.out⟩, HB2⟩
  case round =>
    clear HI0 HI2 HO2 HB2 HG2 hc3 HS2
    obtain ⟨k, hk, rfl, HI, HZ, HO, HB⟩ := hrel
    by_cases hlt : k < l.length
    · obtain ⟨wo, rfl⟩ : ∃ wo : World, wo = wr := ⟨_, rfl⟩
      have hdk : decide (k < l.length) = true := decide_eq_true hlt
      have hdi : decide ((k : Int) < (l.length : Int)) = true := decide_eq_true (by omega)
      have hg := (Kd.R_celln 0 HO.out (k : Int) (by omega) (by omega)).1
      rw [mapUpto_rd of l k hlt, Int.toNat_natCast] at hg
      have hc3 := HI.out.c3
      have hmem := Aside0.mk (List.getElem_mem hlt)
      have HM := Aside0.mk (mapUpto_set of l k hlt)
      generalize l[k] = lk at hg hmem HM
      have hdl : ((mapUpto of l k).length = l.length) := mapUpto_length of l k hk
      have HD := Aside0.mk hdl
      clear hdl
      go_wp2_with fail
      go_region_with (refine (HF.out lk _ hmem.out (below_drew HB.out)).mono ?_; rintro e w3 ⟨rfl, hb⟩; have HI3 := Aside0.mk (HI.out.drew.below hb); have HZ3 := Aside0.mk (HZ.out.drew.below hb); have HO3 := Aside0.mk (Kd.R_below (Kd.R_drew HO.out) hb); have HB3 := Aside0.mk (below_step (below_drew HB.out) hb); have hc3' := HI3.out.c3; have hg' := (Kd.R_celln 0 HO3.out (k : Int) (by omega) (by omega)).1; have hf' := (Kd.R_celln 0 HO3.out (k : Int) (by omega) (by omega)).2; clear HB; rw [Int.toNat_natCast] at hg' hf')
      all_goals
        have hP := Kd.R_putg HO3.out (k : Int) (of lk)
        rw [HM.out, Int.toNat_natCast] at hP
        have HI4 := Aside0.mk (HI3.out.grown hP.2 (Kd.R_ne HO3.out HI3.out.out (by decide)))
        have HZ4 := Aside0.mk (HZ3.out.grown hP.2 (Kd.R_ne HO3.out HZ3.out.out (by decide)))
        have HB4 := Aside0.mk (below_set (v := .int .i64 (of lk)) (j := k) HB3.out (Kd.R_base HO3.out g rfl))
        have HO4 := Aside0.mk hP.1
        clear hP hg hc3 hc3' hg' hf' HI3 HZ3 HB3 HO3 hb HM hmem HD
        go_wp2
        go_roundw
        case rel => exact ⟨k + 1, by omega, by go_num, HI4, HZ4, HO4, HB4⟩
        case measure => simp [intOf]; omega
    · have hk' : k = l.length := by omega
      subst hk'
      have hdk : decide ((l.length : Int) < (l.length : Int)) = false := decide_eq_false (by omega)
      go_wp2_with (first | (refine wpList_load_img rfl _ rfl w1.heap.size a0 a1 a2 _ rfl HI.out ?_) | (refine wpList_store_img rfl _ _ rfl (w.heap.size + 1) 0 0 0 a0 a1 a2 _ _ rfl rfl rfl HZ.out ?_))
      refine bodyPost_ret (results_cell_row rfl _ _ (w.heap.size + 1) _ _ _ _ rfl (HZ.out.row a0 a1 a2 _).out Try.underlying25 rfl img_size) rfl ⟨_, rfl, ?_, ?_⟩
      · have h := HO.out
        rw [mapUpto_all] at h
        exact Kd.R_step (Kd.R_types h HZ.out.out (by decide)) (fun j hj _ => setRow_other _ _ _ _ hj.2) |> fun h => Kd.R_mono h (fun _ _ => trivial)
      · exact below_putRow HB.out _ _ (Nat.le_succ _)

end Go.Proofs.Ytfljcejkgdkkeaa.Print
