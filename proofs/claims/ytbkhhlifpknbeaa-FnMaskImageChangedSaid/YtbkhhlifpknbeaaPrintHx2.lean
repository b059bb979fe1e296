-- laid by hp.py (a program of this work over the kit's print), with contracts by hand for what the print does not take
import Derived.Test.YtbkhhlifpknbeaaPrint0
import Derived.Test.YtbkhhlifpknbeaaPrintHx0
import Derived.Test.YtbkhhlifpknbeaaPrintR0x0
import Derived.Test.YtbkhhlifpknbeaaPrintR1x2
namespace Go.Proofs.Ytbkhhlifpknbeaa.Print
open Go.RowKit Go.Proofs.YtbkhhlifpknbeaaW.PrintWords Go.Proofs.YtbkhhlifpknbeaaW.PrintLast Go.Proofs.YtbkhhlifpknbeaaW.PrintMore
attribute [local go_sem] max2_int min2_int max_two min_two max_three min_three max_four min_four   -- for this text's walks alone
set_option linter.unusedVariables false
set_option linter.unusedSimpArgs false

--SNIP hand_Valid
/-! ### Regions: lists of runs in order -/
def okRun (r : S59) : Prop := 0 ≤ r.f0 ∧ r.f0 < 16 ∧ 0 ≤ r.f1 ∧ r.f1 < r.f2 ∧ r.f2 ≤ 16
/-- One run stands ahead of another one. -/
def before (a b : S59) : Prop := a.f0 < b.f0 ∨ (a.f0 = b.f0 ∧ a.f2 < b.f1)
instance (r : S59) : Decidable (okRun r) := by unfold okRun; exact inferInstance
instance (a b : S59) : Decidable (before a b) := by unfold before; exact inferInstance
/-- A region. -/
def Valid (l : List S59) : Prop := (∀ r ∈ l, okRun r) ∧ l.Pairwise before
instance (l : List S59) : Decidable (Valid l) := by unfold Valid; exact inferInstance
theorem Valid.runsOk {l : List S59} (h : Valid l) : RunsOk l := h.1
theorem before_trans {a b c : S59} (hb : okRun b) (h1 : before a b) (h2 : before b c) : before a c := by
  unfold before okRun at *
  omega
/-- What the run at a place must meet. -/
def okAt (l : List S59) (j : Nat) : Prop := okRun (rd_T59 l (j : Int)) ∧ (j = 0 ∨ before (rd_T59 l ((j - 1 : Nat) : Int)) (rd_T59 l (j : Int)))
instance (l : List S59) (j : Nat) : Decidable (okAt l j) := by unfold okAt; exact inferInstance
theorem valid_iff (l : List S59) : Valid l ↔ ∀ j, j < l.length → okAt l j := by
  constructor
  · rintro ⟨h1, h2⟩ j hj
    refine ⟨?_, ?_⟩
    · rw [rdRun_get l j hj]
      exact h1 _ (List.getElem_mem hj)
    · rcases Nat.eq_zero_or_pos j with h0 | h0
      · exact .inl h0
      · rw [rdRun_get l j hj, rdRun_get l (j - 1) (by omega)]
        exact .inr (List.pairwise_iff_getElem.1 h2 (j - 1) j (by omega) hj (by omega))
  · intro h
    have hok : ∀ j (hj : j < l.length), okRun l[j] := fun j hj => by
      have := (h j hj).1
      rwa [rdRun_get l j hj] at this
    have hnext : ∀ j (hj : j + 1 < l.length), before l[j] l[j + 1] := fun j hj => by
      have := (h (j + 1) hj).2
      rw [rdRun_get l (j + 1) hj, show j + 1 - 1 = j by omega, rdRun_get l j (by omega)] at this
      rcases this with h0 | h0
      · omega
      · exact h0
    refine ⟨fun r hr => ?_, List.pairwise_iff_getElem.2 ?_⟩
    · obtain ⟨j, hj, rfl⟩ := List.getElem_of_mem hr
      exact hok j hj
    · intro i j hi hj hij
      obtain ⟨d, rfl⟩ : ∃ d, j = i + 1 + d := ⟨j - (i + 1), by omega⟩
      induction d with
      | zero => exact hnext i hj
      | succ d ih => exact before_trans (hok (i + 1 + d) (by omega)) (ih (by omega) (by omega)) (hnext (i + 1 + d) hj)
theorem impl_isRegion.ev_l0 (l : List S59) (hl : l.length ≤ 9223372036854775807) (d : Nat) : ∀ i, i ≤ l.length → l.length - i = d →
    Ev (fun k => impl_isRegion.l0 k l l (l.length : Int) (i : Int)) (decide (∀ j, j < l.length → i ≤ j → okAt l j)) := by
  induction d with
  | zero =>
    intro i hi hd
    refine Ev.step (fun k => by simp only [impl_isRegion.l0]; rfl) (evNeg (by omega) (evRet ?_))
    rw [eq_comm, decide_eq_true_eq]
    intro j h1 h2
    omega
  | succ d ih =>
    intro i hi hd
    have hlt : i < l.length := by omega
    have hnot : ¬ okAt l i → decide (∀ j, j < l.length → i ≤ j → okAt l j) = false := fun h => by
      rw [decide_eq_false_iff_not]
      exact fun hh => h (hh i hlt (Nat.le_refl _))
    have hyes : okAt l i → decide (∀ j, j < l.length → i ≤ j → okAt l j) = decide (∀ j, j < l.length → i + 1 ≤ j → okAt l j) := fun h => by
      refine decide_eq_decide.mpr ⟨fun hh j h1 h2 => hh j h1 (by omega), fun hh j h1 h2 => ?_⟩
      rcases Nat.eq_or_lt_of_le h2 with h3 | h3
      · subst h3
        exact h
      · exact hh j h1 h3
    have hbad : ∀ a b c, ¬ okAt l i → Ev (fun k => impl_isRegion.j1 k l (i : Int) l (l.length : Int) (i : Int) true a b c) (decide (∀ j, j < l.length → i ≤ j → okAt l j)) := fun a b c h =>
      Ev.step (fun k => by simp only [impl_isRegion.j1]; rfl) (evPos (by trivial) (evRet (hnot h).symm))
    refine Ev.step (fun k => by simp only [impl_isRegion.l0]; rfl) (evPos (by omega) (evPos (by omega) (evPos (by omega) ?_)))
    refine evIf (fun h1 => hbad _ _ _ (fun h => ?_)) (fun h1 => evIf (fun h2 => hbad _ _ _ (fun h => ?_)) (fun h2 => evIf (fun h3 => hbad _ _ _ (fun h => ?_)) (fun h3 => evIf (fun h4 => hbad _ _ _ (fun h => ?_)) (fun h4 => ?_))))
    · have := h.1.1; omega
    · have := h.1.2.1; omega
    · have := h.1.2.2.1; omega
    · have := h.1.2.2.2.1; omega
    · refine Ev.step (fun k => by simp only [impl_isRegion.j1]; rfl) (evIf (fun h5 => evRet (hnot (fun h => ?_)).symm) (fun h5 => ?_))
      · have := h.1.2.2.2.2
        simp at h5
        omega
      · have hr : okRun (rd_T59 l (i : Int)) := by
          simp at h5
          unfold okRun
          omega
        have hw : wrap64 ((i : Int) + 1) = ((i + 1 : Nat) : Int) := wrapSucc i (by omega)
        rw [hw]
        refine evIf (fun h6 => ?_) (fun h6 => ?_)
        · rw [hyes ⟨hr, .inl (by omega)⟩]
          exact ih (i + 1) (by omega) (by omega)
        · have hw2 : wrap64 ((i : Int) - 1) = ((i - 1 : Nat) : Int) := by unfold wrap64; omega
          rw [hw2]
          refine evPos (by omega) (evPos (by omega) (evIf (fun h7 => evRet (hnot fun h => ?_).symm) (fun h7 => evIf (fun h8 => evIf (fun h9 => evRet (hnot fun h => ?_).symm) (fun h9 => ?_)) (fun h8 => ?_))))
          · have := h.2
            unfold before at this
            omega
          · have := h.2
            unfold before at this
            omega
          · rw [hyes ⟨hr, .inr (by unfold before; omega)⟩]
            exact ih (i + 1) (by omega) (by omega)
          · rw [hyes ⟨hr, .inr (by unfold before; omega)⟩]
            exact ih (i + 1) (by omega) (by omega)
/-- impl.isRegion tells whether a list is a region. -/
theorem impl_isRegion.ev (l : List S59) (hl : l.length ≤ 9223372036854775807) : Ev (fun k => impl_isRegion.f k l) (decide (Valid l)) := by
  have h := impl_isRegion.ev_l0 l hl l.length 0 (by omega) (by omega)
  unfold impl_isRegion.f
  have e : decide (∀ j, j < l.length → 0 ≤ j → okAt l j) = decide (Valid l) := decide_eq_decide.mpr (by rw [valid_iff]; exact ⟨fun h j hj => h j hj (Nat.zero_le _), fun h j hj _ => h j hj⟩)
  rw [e] at h
  exact h
/-- .. and so does the call of it. -/
theorem isRegion_calls (A0 : Option Addr) (c0 : Nat) (l0 : List S59) (w : World) (hr0 : Kd.C k59 w A0 l0.length l0) (hc0 : l0.length ≤ c0) :
    Calls Try.prog 24 #[.slice A0 l0.length c0] w fun e w' => e = .returned (.bool (decide (Valid l0))) ∧ Below w.heap.size w w' := by
  obtain ⟨k, hk⟩ := (impl_isRegion.ev l0 hr0.2.1).rounds
  exact impl_isRegion.calls k A0 c0 l0 _ w hr0 hc0 hk

--SNIP hand_ImgOk
/-! ### Valid images -/
/-- A valid image. -/
def ImgOk (a b c : Int) (l : List Int) : Prop := (1 ≤ a ∧ a ≤ 16) ∧ (1 ≤ b ∧ b ≤ 16) ∧ (1 ≤ c ∧ c ≤ 4) ∧ (l.length : Int) = a * b * c ∧ ∀ x ∈ l, 0 ≤ x ∧ x ≤ 255
instance (a b c : Int) (l : List Int) : Decidable (ImgOk a b c l) := by unfold ImgOk; exact inferInstance
theorem shape_prod {a b c : Int} (ha : 1 ≤ a ∧ a ≤ 16) (hb : 1 ≤ b ∧ b ≤ 16) (hc : 1 ≤ c ∧ c ≤ 4) : 1 ≤ a * b ∧ a * b ≤ 256 ∧ 1 ≤ a * b * c ∧ a * b * c ≤ 1024 := by
  have h1 : a * b ≤ 16 * 16 := Int.mul_le_mul ha.2 hb.2 (by omega) (by omega)
  have h2 : 1 * 1 ≤ a * b := Int.mul_le_mul ha.1 hb.1 (by omega) (by omega)
  generalize a * b = m at *
  have h3 : m * c ≤ 256 * 4 := Int.mul_le_mul (by omega) hc.2 (by omega) (by omega)
  have h4 : 1 * 1 ≤ m * c := Int.mul_le_mul (by omega) hc.1 (by omega) (by omega)
  omega
theorem shape_wrap {a b c : Int} (ha : 1 ≤ a ∧ a ≤ 16) (hb : 1 ≤ b ∧ b ≤ 16) (hc : 1 ≤ c ∧ c ≤ 4) : wrap64 (wrap64 (a * b) * c) = a * b * c := by
  obtain ⟨h1, h2, h3, h4⟩ := shape_prod ha hb hc
  rw [wrapIn (x := a * b) (by omega) (by omega), wrapIn (by omega) (by omega)]
theorem ImgOk.len {a b c : Int} {l : List Int} (h : ImgOk a b c l) : 0 < l.length ∧ l.length ≤ 1024 := by
  obtain ⟨ha, hb, hc, hl, _⟩ := h
  obtain ⟨_, _, h3, h4⟩ := shape_prod ha hb hc
  omega
theorem impl_isSide.eq (a : Int) : impl_isSide.f a = some (decide (1 ≤ a ∧ a ≤ 16)) := by
  unfold impl_isSide.f
  by_cases h : 1 ≤ a
  · rw [if_pos h]; simp [h]
  · rw [if_neg h]; simp [h]
theorem impl_isShape.eq (a b c : Int) : impl_isShape.f a b c = some (decide ((1 ≤ a ∧ a ≤ 16) ∧ (1 ≤ b ∧ b ≤ 16) ∧ (1 ≤ c ∧ c ≤ 4))) := by
  unfold impl_isShape.f
  rw [impl_isSide.eq, impl_isSide.eq]
  simp only [Option.bind_some, decide_eq_true_eq]
  by_cases h1 : 1 ≤ a ∧ a ≤ 16
  · rw [if_pos h1]
    by_cases h2 : 1 ≤ b ∧ b ≤ 16
    · rw [if_pos h2]
      by_cases h3 : 1 ≤ c
      · rw [if_pos h3]; simp [h1, h2, h3]
      · rw [if_neg h3]; simp [h3]
    · rw [if_neg h2]; simp only [h2, false_and, and_false, decide_false]
  · rw [if_neg h1]; simp only [h1, false_and, decide_false]
theorem impl_areBytes.eq (l : List Int) : impl_areBytes.f l = some (decide (∀ x ∈ l, 0 ≤ x ∧ x ≤ 255)) := by
  unfold impl_areBytes.f
  congr 1
  rw [Bool.eq_iff_iff]
  simp only [Bool.not_eq_true', List.any_eq_false, decide_eq_true_eq]
  constructor
  · intro h x hx
    have := h x hx
    simp at this
    omega
  · intro h x hx
    have := h x hx
    simp
    omega
theorem impl_isImage.eq (a b c : Int) (l : List Int) : impl_isImage.f a b c l = some (decide (ImgOk a b c l)) := by
  unfold impl_isImage.f
  rw [impl_isShape.eq, impl_areBytes.eq]
  simp only [Option.bind_some, decide_eq_true_eq]
  by_cases h : (1 ≤ a ∧ a ≤ 16) ∧ (1 ≤ b ∧ b ≤ 16) ∧ (1 ≤ c ∧ c ≤ 4)
  · rw [if_pos h, shape_wrap h.1 h.2.1 h.2.2]
    by_cases h2 : (l.length : Int) = a * b * c
    · rw [if_pos h2]
      by_cases h3 : ∀ x ∈ l, 0 ≤ x ∧ x ≤ 255
      · rw [decide_eq_true h3, decide_eq_true (show ImgOk a b c l from ⟨h.1, h.2.1, h.2.2, h2, h3⟩)]
      · rw [decide_eq_false h3, decide_eq_false (fun hh : ImgOk a b c l => h3 hh.2.2.2.2)]
    · rw [if_neg h2, decide_eq_false (fun hh : ImgOk a b c l => h2 hh.2.2.2.1)]
  · rw [if_neg h, decide_eq_false (fun hh : ImgOk a b c l => h ⟨hh.1, hh.2.1, hh.2.2.1⟩)]
/-- The program's isImage, told by ImgOk. -/
theorem isImage_true {a b c : Int} {l : List Int} (h : ImgOk a b c l) (A : Option Addr) (k : Nat) (w : World) (hr : Kd.C (Kd.int .i64) w A l.length l) (hc : l.length ≤ k) :
    Calls Try.prog 22 #[.agg #[.int .i64 a, .int .i64 b, .int .i64 c, .slice A l.length k]] w fun e w' => e = .returned (.bool true) ∧ Below w.heap.size w w' :=
  impl_isImage.calls a b c A k l true w hr hc (by rw [impl_isImage.eq, decide_eq_true h])
theorem isImage_false {a b c : Int} {l : List Int} (h : ¬ ImgOk a b c l) (A : Option Addr) (k : Nat) (w : World) (hr : Kd.C (Kd.int .i64) w A l.length l) (hc : l.length ≤ k) :
    Calls Try.prog 22 #[.agg #[.int .i64 a, .int .i64 b, .int .i64 c, .slice A l.length k]] w fun e w' => e = .returned (.bool false) ∧ Below w.heap.size w w' :=
  impl_isImage.calls a b c A k l false w hr hc (by rw [impl_isImage.eq, decide_eq_false h])
theorem ImgOk.nats {a0 a1 a2 : Int} {l : List Int} (h : ImgOk a0 a1 a2 l) : ∃ W H p : Nat, a0 = W ∧ a1 = H ∧ a2 = p ∧ l.length = W * H * p ∧ 1 ≤ W ∧ 1 ≤ H ∧ 1 ≤ p ∧ W ≤ 16 ∧ H ≤ 16 ∧ p ≤ 4 := by
  obtain ⟨ha, hb, hc, hl, _⟩ := h
  obtain ⟨W, rfl⟩ := Int.eq_ofNat_of_zero_le (show 0 ≤ a0 by omega)
  obtain ⟨H, rfl⟩ := Int.eq_ofNat_of_zero_le (show 0 ≤ a1 by omega)
  obtain ⟨p, rfl⟩ := Int.eq_ofNat_of_zero_le (show 0 ≤ a2 by omega)
  refine ⟨W, H, p, rfl, rfl, rfl, ?_, by omega, by omega, by omega, by omega, by omega, by omega⟩
  have e : ((W * H * p : Nat) : Int) = (W : Int) * (H : Int) * (p : Int) := by push_cast; rfl
  omega

end Go.Proofs.Ytbkhhlifpknbeaa.Print
