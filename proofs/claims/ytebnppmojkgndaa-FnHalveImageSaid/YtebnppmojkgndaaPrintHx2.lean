-- laid by hp.py (a program of this work over the kit's print), with contracts by hand for what the print does not take
import Derived.Test.YtebnppmojkgndaaPrint0
import Derived.Test.YtebnppmojkgndaaPrintHx0
import Derived.Test.YtebnppmojkgndaaPrintR0x0
import Derived.Test.YtebnppmojkgndaaPrintR1x4
namespace Go.Proofs.Ytebnppmojkgndaa.Print
open Go.RowKit Go.Proofs.YtebnppmojkgndaaW.PrintWords Go.Proofs.YtebnppmojkgndaaW.PrintLast Go.Proofs.YtebnppmojkgndaaW.PrintMore
attribute [local go_sem] max2_int min2_int max_two min_two max_three min_three max_four min_four   -- for this text's walks alone
set_option linter.unusedVariables false
set_option linter.unusedSimpArgs false

--SNIP hand_ImgOk
/-! ### Valid images -/
/-- A valid image. -/
def ImgOk (a b c : Int) (l : List Int) : Prop := (1 ≤ a ∧ a ≤ 16) ∧ (1 ≤ b ∧ b ≤ 16) ∧ (1 ≤ c ∧ c ≤ 4) ∧ (l.length : Int) = a * b * c ∧ ∀ x ∈ l, 0 ≤ x ∧ x ≤ 255
instance (a b c : Int) (l : List Int) : Decidable (ImgOk a b c l) := by unfold ImgOk; exact inferInstance
theorem shape_prod {a b c : Int} (ha : 1 ≤ a ∧ a ≤ 16) (hb : 1 ≤ b ∧ b ≤ 16) (hc : 1 ≤ c ∧ c ≤ 4) : 1 ≤ a * b ∧ a * b ≤ 256 ∧ 1 ≤ a * b * c ∧ a * b * c ≤ 1024 := by
  have h1 : a * b ≤ 16 * 16 := Int.mul_le_mul ha.2 hb.2 (by omega) (by omega)
  have h2 : 1 * 1 ≤ a * b := Int.mul_le_mul ha.1 hb.1 (by omega) (by omega)
  generalize a * b = m at *
  have h3 : m * c ≤ 256 * 4 := Int.mul_le_mul (by omega) hc.2 (by omega) (by omega)
  have h4 : 1 * 1 ≤ m * c := Int.mul_le_mul (by omega) hc.1 (by omega) (by omega)
  omega
theorem shape_wrap {a b c : Int} (ha : 1 ≤ a ∧ a ≤ 16) (hb : 1 ≤ b ∧ b ≤ 16) (hc : 1 ≤ c ∧ c ≤ 4) : wrap64 (wrap64 (a * b) * c) = a * b * c := by
  obtain ⟨h1, h2, h3, h4⟩ := shape_prod ha hb hc
  rw [wrapIn (x := a * b) (by omega) (by omega), wrapIn (by omega) (by omega)]
theorem ImgOk.len {a b c : Int} {l : List Int} (h : ImgOk a b c l) : 0 < l.length ∧ l.length ≤ 1024 := by
  obtain ⟨ha, hb, hc, hl, _⟩ := h
  obtain ⟨_, _, h3, h4⟩ := shape_prod ha hb hc
  omega
theorem impl_isSide.eq (a : Int) : impl_isSide.f a = some (decide (1 ≤ a ∧ a ≤ 16)) := by
  unfold impl_isSide.f
  by_cases h : 1 ≤ a
  · rw [if_pos h]; simp [h]
  · rw [if_neg h]; simp [h]
theorem impl_isShape.eq (a b c : Int) : impl_isShape.f a b c = some (decide ((1 ≤ a ∧ a ≤ 16) ∧ (1 ≤ b ∧ b ≤ 16) ∧ (1 ≤ c ∧ c ≤ 4))) := by
  unfold impl_isShape.f
  rw [impl_isSide.eq, impl_isSide.eq]
  simp only [Option.bind_some, decide_eq_true_eq]
  by_cases h1 : 1 ≤ a ∧ a ≤ 16
  · rw [if_pos h1]
    by_cases h2 : 1 ≤ b ∧ b ≤ 16
    · rw [if_pos h2]
      by_cases h3 : 1 ≤ c
      · rw [if_pos h3]; simp [h1, h2, h3]
      · rw [if_neg h3]; simp [h3]
    · rw [if_neg h2]; simp only [h2, false_and, and_false, decide_false]
  · rw [if_neg h1]; simp only [h1, false_and, decide_false]
theorem impl_areBytes.eq (l : List Int) : impl_areBytes.f l = some (decide (∀ x ∈ l, 0 ≤ x ∧ x ≤ 255)) := by
  unfold impl_areBytes.f
  congr 1
  rw [Bool.eq_iff_iff]
  simp only [Bool.not_eq_true', List.any_eq_false, decide_eq_true_eq]
  constructor
  · intro h x hx
    have := h x hx
    simp at this
    omega
  · intro h x hx
    have := h x hx
    simp
    omega
theorem impl_isImage.eq (a b c : Int) (l : List Int) : impl_isImage.f a b c l = some (decide (ImgOk a b c l)) := by
  unfold impl_isImage.f
  rw [impl_isShape.eq, impl_areBytes.eq]
  simp only [Option.bind_some, decide_eq_true_eq]
  by_cases h : (1 ≤ a ∧ a ≤ 16) ∧ (1 ≤ b ∧ b ≤ 16) ∧ (1 ≤ c ∧ c ≤ 4)
  · rw [if_pos h, shape_wrap h.1 h.2.1 h.2.2]
    by_cases h2 : (l.length : Int) = a * b * c
    · rw [if_pos h2]
      by_cases h3 : ∀ x ∈ l, 0 ≤ x ∧ x ≤ 255
      · rw [decide_eq_true h3, decide_eq_true (show ImgOk a b c l from ⟨h.1, h.2.1, h.2.2, h2, h3⟩)]
      · rw [decide_eq_false h3, decide_eq_false (fun hh : ImgOk a b c l => h3 hh.2.2.2.2)]
    · rw [if_neg h2, decide_eq_false (fun hh : ImgOk a b c l => h2 hh.2.2.2.1)]
  · rw [if_neg h, decide_eq_false (fun hh : ImgOk a b c l => h ⟨hh.1, hh.2.1, hh.2.2.1⟩)]
/-- The program's isImage, told by ImgOk. -/
theorem isImage_true {a b c : Int} {l : List Int} (h : ImgOk a b c l) (A : Option Addr) (k : Nat) (w : World) (hr : Kd.C (Kd.int .i64) w A l.length l) (hc : l.length ≤ k) :
    Calls Try.prog 15 #[.agg #[.int .i64 a, .int .i64 b, .int .i64 c, .slice A l.length k]] w fun e w' => e = .returned (.bool true) ∧ Below w.heap.size w w' :=
  impl_isImage.calls a b c A k l true w hr hc (by rw [impl_isImage.eq, decide_eq_true h])
theorem isImage_false {a b c : Int} {l : List Int} (h : ¬ ImgOk a b c l) (A : Option Addr) (k : Nat) (w : World) (hr : Kd.C (Kd.int .i64) w A l.length l) (hc : l.length ≤ k) :
    Calls Try.prog 15 #[.agg #[.int .i64 a, .int .i64 b, .int .i64 c, .slice A l.length k]] w fun e w' => e = .returned (.bool false) ∧ Below w.heap.size w w' :=
  impl_isImage.calls a b c A k l false w hr hc (by rw [impl_isImage.eq, decide_eq_false h])
theorem ImgOk.nats {a0 a1 a2 : Int} {l : List Int} (h : ImgOk a0 a1 a2 l) : ∃ W H p : Nat, a0 = W ∧ a1 = H ∧ a2 = p ∧ l.length = W * H * p ∧ 1 ≤ W ∧ 1 ≤ H ∧ 1 ≤ p ∧ W ≤ 16 ∧ H ≤ 16 ∧ p ≤ 4 := by
  obtain ⟨ha, hb, hc, hl, _⟩ := h
  obtain ⟨W, rfl⟩ := Int.eq_ofNat_of_zero_le (show 0 ≤ a0 by omega)
  obtain ⟨H, rfl⟩ := Int.eq_ofNat_of_zero_le (show 0 ≤ a1 by omega)
  obtain ⟨p, rfl⟩ := Int.eq_ofNat_of_zero_le (show 0 ≤ a2 by omega)
  refine ⟨W, H, p, rfl, rfl, rfl, ?_, by omega, by omega, by omega, by omega, by omega, by omega⟩
  have e : ((W * H * p : Nat) : Int) = (W : Int) * (H : Int) * (p : Int) := by push_cast; rfl
  omega

end Go.Proofs.Ytebnppmojkgndaa.Print
