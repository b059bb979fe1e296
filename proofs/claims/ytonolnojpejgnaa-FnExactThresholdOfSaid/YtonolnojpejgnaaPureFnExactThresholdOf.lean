/- FnExactThresholdOf answers true for every image: the program's ThresholdOf is the reference's. No condition. -/
import Derived.Test.YtonolnojpejgnaaPrintHx0
import Derived.Test.YtonolnojpejgnaaPrintHx2
import Derived.Test.YtonolnojpejgnaaPrintLFnExactThresholdOf
import Derived.Test.YtonolnojpejgnaaPrintR0x0
import Derived.Test.YtonolnojpejgnaaPrintR0x1
import Derived.Test.YtonolnojpejgnaaPrintR1x0
import Derived.Test.YtonolnojpejgnaaPrintR1x10
import Derived.Test.YtonolnojpejgnaaPrintR1x3
import Derived.Test.YtonolnojpejgnaaPrintR1x4
import Derived.Test.YtonolnojpejgnaaPrintR1x5
namespace Go.Proofs.Ytonolnojpejgnaa.Pure
open Go.RowKit Go.Proofs.Ytonolnojpejgnaa.Print Go.Proofs.YtonolnojpejgnaaW.PrintWords Go.Proofs.YtonolnojpejgnaaW.PrintLast Go.Proofs.YtonolnojpejgnaaW.PrintMore
set_option linter.unusedVariables false
set_option linter.unusedSimpArgs false
theorem rdN (l : List Int) (k : Nat) (h : k < l.length) : rd l (k : Int) = l[k] := by
  simp [rd, List.getD_eq_getElem?_getD, List.getElem?_eq_getElem h]
theorem drop_cons_ {α : Type} (l : List α) (k : Nat) (h : k < l.length) : l.drop k = l[k] :: l.drop (k + 1) := List.drop_eq_getElem_cons h
theorem take_snocN {α : Type} (l : List α) (k : Nat) (h : k < l.length) : l.take (k + 1) = l.take k ++ [l[k]] := by
  rw [List.take_succ_eq_append_getElem h]
/-- Two lists of one length, from a place on. -/
theorem decide_drop_eq {α : Type} [DecidableEq α] (a b : List α) (i : Nat) (h1 : i < a.length) (h2 : i < b.length) : decide (a.drop i = b.drop i) = (decide (a[i] = b[i]) && decide (a.drop (i + 1) = b.drop (i + 1))) := by
  rw [drop_cons_ a i h1, drop_cons_ b i h2]
  rw [Bool.eq_iff_iff]
  simp only [decide_eq_true_eq, Bool.and_eq_true, List.cons.injEq]

theorem laws_eqIntS.ev_l0 (a b : List Int) (hab : a.length = b.length) (hl : a.length ≤ 9223372036854775807) (d : Nat) : ∀ i, i ≤ a.length → a.length - i = d →
    Ev (fun k => laws_eqIntS.l0 k a b (i : Int)) (decide (a.drop i = b.drop i)) := by
  induction d with
  | zero =>
    intro i hi hd
    refine Ev.step (fun k => by simp only [laws_eqIntS.l0]; rfl) (evNeg (by omega) (evRet ?_))
    rw [List.drop_of_length_le (by omega), List.drop_of_length_le (by omega)]
    rfl
  | succ d ih =>
    intro i hi hd
    have hw : wrap64 ((i : Int) + 1) = ((i + 1 : Nat) : Int) := wrapSucc i (by omega)
    refine Ev.step (fun k => by simp only [laws_eqIntS.l0, hw]; rfl) (evPos (by omega) (evPos (by omega) (evPos (by omega) ?_)))
    rw [decide_drop_eq a b i (by omega) (by omega), rdN a i (by omega), rdN b i (by omega)]
    refine evIf (fun h => ?_) (fun h => evRet ?_)
    · rw [decide_eq_true h, Bool.true_and]
      exact ih (i + 1) (by omega) (by omega)
    · rw [decide_eq_false h, Bool.false_and]
theorem laws_eqIntS.ev (a b : List Int) (hl : a.length ≤ 9223372036854775807) : Ev (fun k => laws_eqIntS.f k a b) (decide (a = b)) := by
  unfold laws_eqIntS.f
  refine evIf (fun h => ?_) (fun h => evRet ?_)
  · have := laws_eqIntS.ev_l0 a b (by omega) hl a.length 0 (by omega) (by omega)
    simpa using this
  · rw [eq_comm, decide_eq_false_iff_not]
    intro hab
    exact h (by rw [hab])

theorem laws_toIntS.ev_l0 (l : List Int) (hl : l.length ≤ 9223372036854775806) (d : Nat) : ∀ i, i ≤ l.length → l.length - i = d →
    Ev (fun k => laws_toIntS.l0 k l (l.take i ++ List.replicate (l.length - i) 0) (i : Int)) l := by
  induction d with
  | zero =>
    intro i hi hd
    refine Ev.step (fun k => by simp only [laws_toIntS.l0]; rfl) (evNeg (by omega) (evRet ?_))
    rw [List.take_of_length_le (by omega), hd]
    simp
  | succ d ih =>
    intro i hi hd
    have hw : wrap64 ((i : Int) + 1) = ((i + 1 : Nat) : Int) := wrapSucc i (by omega)
    have hs : (l.take i ++ List.replicate (l.length - i) 0).set (i : Int).toNat (rd l i) = l.take (i + 1) ++ List.replicate (l.length - (i + 1)) 0 := by
      rw [Int.toNat_natCast, List.set_append_right _ _ (by simp; omega), List.length_take, show i - min i l.length = 0 by omega, show l.length - i = (l.length - (i + 1)) + 1 by omega, List.replicate_succ, List.set_cons_zero, rdN l i (by omega), take_snocN l i (by omega), List.append_assoc]
      rfl
    refine Ev.step (fun k => by simp only [laws_toIntS.l0, hw, hs]; rfl) (evPos (by omega) (evPos (by omega) (evPos (by simp; omega) ?_)))
    exact ih (i + 1) (by omega) (by omega)
theorem laws_toIntS.ev (l : List Int) (hl : l.length * 8 ≤ 140737488351232) : Ev (fun k => laws_toIntS.f k l) l := by
  have h := laws_toIntS.ev_l0 l (by omega) l.length 0 (by omega) (by omega)
  unfold laws_toIntS.f
  refine evPos (by omega) (evPos (by rw [Int.toNat_natCast]; omega) ?_)
  rw [Int.toNat_natCast]
  simpa using h

theorem laws_szImage.val (a b c : Int) (l : List Int) (m : Int) (hm0 : 0 ≤ m) (hm1 : m ≤ 1048576) (hl : l.length ≤ maxLen) : laws_szImage.f a b c l m = some (if m < l.length then -1 else m - l.length) := by
  simp only [maxLen] at hl
  unfold laws_szImage.f laws_szIntS.f
  rw [wrapIn (x := m - (l.length : Int)) (by omega) (by omega)]
  by_cases h : m < l.length
  · rw [if_pos (by omega), if_pos h]
    simp
  · rw [if_neg (by omega), if_neg h]
    simp only [Option.bind_some]
    rw [if_neg (by omega)]
theorem laws_toImage.ev (a b c : Int) (l : List Int) (hl : l.length * 8 ≤ 140737488351232) : Ev (fun k => laws_toImage.f k a b c l) (a, b, c, l) := by
  unfold laws_toImage.f
  exact evBind (laws_toIntS.ev l hl) (evRet rfl)
theorem laws_eqImage.refl (a b c : Int) (l : List Int) (hl : l.length ≤ 9223372036854775807) : Ev (fun k => laws_eqImage.f k a b c l a b c l) true := by
  have h := laws_eqIntS.ev l l hl
  rw [decide_eq_true rfl] at h
  unfold laws_eqImage.f
  exact evPos rfl (evPos rfl (evPos rfl (evBind h (evPos rfl (evRet rfl)))))
theorem inRange_val (a lo hi : Int) : spec_inRange.f a lo hi = some (decide (lo ≤ a ∧ a ≤ hi)) := by
  unfold spec_inRange.f
  split
  · rename_i h; simp [h]
  · rename_i h; simp [h]

/-- All numbers of a list lie in a range. -/
def allB (lo hi : Int) (l : List Int) : Bool := l.all fun x => decide (lo ≤ x ∧ x ≤ hi)
theorem allB_iff (lo hi : Int) (l : List Int) : allB lo hi l = true ↔ ∀ x ∈ l, lo ≤ x ∧ x ≤ hi := by
  unfold allB
  rw [List.all_eq_true]
  simp only [decide_eq_true_eq]
theorem spec_allIn.ev_l0 (l : List Int) (lo hi : Int) (hl : l.length ≤ 9223372036854775806) (d : Nat) : ∀ i, i ≤ l.length → l.length - i = d →
    Ev (fun k => spec_allIn.l0 k l lo hi (i : Int)) (allB lo hi (l.drop i)) := by
  induction d with
  | zero =>
    intro i hi' hd
    refine Ev.step (fun k => by simp only [spec_allIn.l0]; rfl) (evNeg (by omega) (evRet ?_))
    rw [List.drop_of_length_le (by omega)]
    rfl
  | succ d ih =>
    intro i hi' hd
    have hw : wrap64 ((i : Int) + 1) = ((i + 1 : Nat) : Int) := wrapSucc i (by omega)
    refine Ev.step (fun k => by simp only [spec_allIn.l0, hw]; rfl) (evPos (by omega) (evPos (by omega) ?_))
    rw [rdN l i (by omega), drop_cons_ l i (by omega)]
    have hr : spec_inRange.f l[i] lo hi = some (decide (lo ≤ l[i] ∧ l[i] ≤ hi)) := by
      unfold spec_inRange.f
      split
      · rename_i h; simp [h]
      · rename_i h; simp [h]
    have e : allB lo hi (l[i] :: l.drop (i + 1)) = (decide (lo ≤ l[i] ∧ l[i] ≤ hi) && allB lo hi (l.drop (i + 1))) := by
      unfold allB
      rw [List.all_cons]
    rw [e]
    refine evFix hr (evIf (fun h => ?_) (fun h => evRet ?_))
    · rw [h, Bool.true_and]
      exact ih (i + 1) (by omega) (by omega)
    · rw [Bool.eq_false_iff.mpr h, Bool.false_and]
theorem spec_allIn.ev (l : List Int) (lo hi : Int) (hl : l.length ≤ 9223372036854775806) : Ev (fun k => spec_allIn.f k l lo hi) (allB lo hi l) := by
  have := spec_allIn.ev_l0 l lo hi hl l.length 0 (by omega) (by omega)
  unfold spec_allIn.f
  simpa using this

theorem spec_validShape.val (a b c : Int) : spec_validShape.f a b c = some (decide ((1 ≤ a ∧ a ≤ 16) ∧ (1 ≤ b ∧ b ≤ 16) ∧ (1 ≤ c ∧ c ≤ 4))) := by
  unfold spec_validShape.f
  rw [inRange_val, inRange_val, inRange_val]
  simp only [Option.bind_some, decide_eq_true_eq]
  by_cases h1 : 1 ≤ a ∧ a ≤ 16
  · rw [if_pos h1]
    by_cases h2 : 1 ≤ b ∧ b ≤ 16
    · rw [if_pos h2]
      congr 1
      rw [Bool.eq_iff_iff]
      simp only [decide_eq_true_eq]
      exact ⟨fun h => ⟨h1, h2, h⟩, fun h => h.2.2⟩
    · rw [if_neg h2, decide_eq_false (fun h => h2 h.2.1)]
  · rw [if_neg h1, decide_eq_false (fun h => h1 h.1)]
theorem allB_bytes (l : List Int) : allB 0 255 l = decide (∀ x ∈ l, 0 ≤ x ∧ x ≤ 255) := by
  rw [Bool.eq_iff_iff, allB_iff, decide_eq_true_eq]
theorem spec_validImage.ev (a b c : Int) (l : List Int) (hl : l.length ≤ 9223372036854775806) : Ev (fun k => spec_validImage.f k a b c l) (decide (ImgOk a b c l)) := by
  unfold spec_validImage.f
  refine evFix (spec_validShape.val a b c) ?_
  by_cases h : (1 ≤ a ∧ a ≤ 16) ∧ (1 ≤ b ∧ b ≤ 16) ∧ (1 ≤ c ∧ c ≤ 4)
  · refine evPos (decide_eq_true h) ?_
    rw [shape_wrap h.1 h.2.1 h.2.2]
    by_cases h2 : (l.length : Int) = a * b * c
    · refine evPos h2 ?_
      have h3 := spec_allIn.ev l 0 255 hl
      refine evBind h3 (evRet ?_)
      rw [allB_bytes, Bool.eq_iff_iff]
      simp only [decide_eq_true_eq]
      exact ⟨fun h3 => ⟨h.1, h.2.1, h.2.2, h2, h3⟩, fun hh => hh.2.2.2.2⟩
    · exact evNeg h2 (evRet (decide_eq_false (fun hh : ImgOk a b c l => h2 hh.2.2.2.1)).symm)
  · exact evNeg (by rw [decide_eq_false h]; simp) (evRet (decide_eq_false (fun hh : ImgOk a b c l => h ⟨hh.1, hh.2.1, hh.2.2.1⟩)).symm)

/-- How often each number of 0..255 stands in a list. -/
def histL (l : List Int) : List Int := (List.range 256).map fun (n : Nat) => ((l.count (n : Int) : Nat) : Int)
theorem histL_length (l : List Int) : (histL l).length = 256 := by simp [histL]
theorem histL_get (l : List Int) (n : Nat) (h : n < (histL l).length) : (histL l)[n] = ((l.count (n : Int) : Nat) : Int) := by simp [histL]
theorem histL_rd (l : List Int) (n : Nat) (h : n < 256) : rd (histL l) (n : Int) = ((l.count (n : Int) : Nat) : Int) := by
  rw [rdN _ n (by rw [histL_length]; exact h), histL_get]
theorem histL_nil : histL [] = List.replicate 256 0 := by
  apply List.ext_getElem
  · rw [histL_length, List.length_replicate]
  · intro j h1 h2
    rw [histL_get, List.getElem_replicate]
    rfl
theorem histL_snoc (l : List Int) (x : Int) (h0 : 0 ≤ x) (h1 : x ≤ 255) : (histL l).set x.toNat (rd (histL l) x + 1) = histL (l ++ [x]) := by
  obtain ⟨m, rfl⟩ := Int.eq_ofNat_of_zero_le h0
  rw [Int.toNat_natCast, histL_rd l m (by omega)]
  apply List.ext_getElem
  · rw [List.length_set, histL_length, histL_length]
  · intro j h2 h3
    rw [List.length_set, histL_length] at h2
    rw [List.getElem_set, histL_get, histL_get, List.count_append]
    by_cases e : m = j
    · subst e
      rw [if_pos rfl, List.count_singleton_self]
      omega
    · rw [if_neg e, List.count_singleton, if_neg (by simp; omega)]
      omega
theorem hist_wrap (l : List Int) (x : Int) (h0 : 0 ≤ x) (h1 : x ≤ 255) (hl : l.length ≤ 1000000) : wrap64 (rd (histL l) x + 1) = rd (histL l) x + 1 := by
  obtain ⟨m, rfl⟩ := Int.eq_ofNat_of_zero_le h0
  have hc := List.count_le_length (l := l) (a := (m : Int))
  rw [histL_rd l m (by omega)]
  exact wrapIn (by omega) (by omega)
theorem spec_histogram.ev_l0 (l : List Int) (hb : ∀ x ∈ l, 0 ≤ x ∧ x ≤ 255) (hl : l.length ≤ 1000000) (d : Nat) : ∀ i, i ≤ l.length → l.length - i = d →
    Ev (fun k => spec_histogram.l0 k l (histL (l.take i)) (i : Int)) (histL l) := by
  induction d with
  | zero =>
    intro i hi hd
    refine Ev.step (fun k => by simp only [spec_histogram.l0]; rfl) (evNeg (by omega) (evRet ?_))
    rw [List.take_of_length_le (by omega)]
  | succ d ih =>
    intro i hi hd
    have hlt : i < l.length := by omega
    have h1 := hb l[i] (List.getElem_mem hlt)
    have hs := histL_snoc (l.take i) l[i] h1.1 h1.2
    rw [← take_snocN l i hlt] at hs
    have hw := hist_wrap (l.take i) l[i] h1.1 h1.2 (by rw [List.length_take]; omega)
    refine Ev.step (fun k => by simp only [spec_histogram.l0, rdN l i hlt, wrapSucc i (by omega), hw, hs]; rfl) ?_
    refine evPos (by omega) (evPos (by omega) (evPos h1.1 (evPos (by rw [histL_length]; omega) ?_)))
    exact ih (i + 1) (by omega) (by omega)
theorem spec_histogram.ev (l : List Int) (hb : ∀ x ∈ l, 0 ≤ x ∧ x ≤ 255) (hl : l.length ≤ 1000000) : Ev (fun k => spec_histogram.f k l) (histL l) := by
  have h := spec_histogram.ev_l0 l hb hl l.length 0 (by omega) (by omega)
  unfold spec_histogram.f
  refine evPos (by omega) ?_
  rw [← histL_nil]
  exact h
theorem impl_histogram.ev_l0 (l : List Int) (hb : ∀ x ∈ l, 0 ≤ x ∧ x ≤ 255) (hl : l.length ≤ 1000000) (d : Nat) : ∀ i, i ≤ l.length → l.length - i = d →
    Ev (fun k => impl_histogram.l0 k (histL (l.take i)) l (l.length : Int) (i : Int)) (histL l) := by
  induction d with
  | zero =>
    intro i hi hd
    refine Ev.step (fun k => by simp only [impl_histogram.l0]; rfl) (evNeg (by omega) (evRet ?_))
    rw [List.take_of_length_le (by omega)]
  | succ d ih =>
    intro i hi hd
    have hlt : i < l.length := by omega
    have h1 := hb l[i] (List.getElem_mem hlt)
    have hs := histL_snoc (l.take i) l[i] h1.1 h1.2
    rw [← take_snocN l i hlt] at hs
    have hw := hist_wrap (l.take i) l[i] h1.1 h1.2 (by rw [List.length_take]; omega)
    refine Ev.step (fun k => by simp only [impl_histogram.l0, rdN l i hlt, wrapSucc i (by omega), hw, hs]; rfl) ?_
    refine evPos (by omega) (evPos (by omega) (evPos (by omega) (evPos h1.1 (evPos (by rw [histL_length]; omega) ?_))))
    exact ih (i + 1) (by omega) (by omega)
theorem impl_histogram.ev (a b c : Int) (l : List Int) (hb : ∀ x ∈ l, 0 ≤ x ∧ x ≤ 255) (hl : l.length ≤ 1000000) : Ev (fun k => impl_histogram.f k a b c l) (histL l) := by
  have h := impl_histogram.ev_l0 l hb hl l.length 0 (by omega) (by omega)
  unfold impl_histogram.f
  refine evPos (by omega) ?_
  rw [← histL_nil]
  exact h
/-- An image with one plane. -/
def GrayOk (a b c : Int) (l : List Int) : Prop := ImgOk a b c l ∧ c = 1
instance (a b c : Int) (l : List Int) : Decidable (GrayOk a b c l) := by unfold GrayOk; exact inferInstance
def tA (l : List Int) (t : Nat) : Nat := (l.filter fun x => decide (x < (t : Int))).length
def tX (l : List Int) (t : Nat) : Int := (l.filter fun x => decide (x < (t : Int))).sum
theorem tA_zero (l : List Int) (hb : ∀ x ∈ l, 0 ≤ x ∧ x ≤ 255) : tA l 0 = 0 := by
  unfold tA
  rw [List.filter_eq_nil_iff.2 fun x hx => by have := hb x hx; simp; omega]
  rfl
theorem tX_zero (l : List Int) (hb : ∀ x ∈ l, 0 ≤ x ∧ x ≤ 255) : tX l 0 = 0 := by
  unfold tX
  rw [List.filter_eq_nil_iff.2 fun x hx => by have := hb x hx; simp; omega]
  rfl
theorem tA_all (l : List Int) (hb : ∀ x ∈ l, 0 ≤ x ∧ x ≤ 255) : tA l 256 = l.length := by
  unfold tA
  rw [List.filter_eq_self.2 fun x hx => by have := hb x hx; simp; omega]
theorem tX_all (l : List Int) (hb : ∀ x ∈ l, 0 ≤ x ∧ x ≤ 255) : tX l 256 = l.sum := by
  unfold tX
  rw [List.filter_eq_self.2 fun x hx => by have := hb x hx; simp; omega]
theorem tA_step (l : List Int) (t : Nat) : tA l (t + 1) = tA l t + l.count (t : Int) := by
  unfold tA
  induction l with
  | nil => rfl
  | cons x r ih =>
    rw [List.filter_cons, List.filter_cons]
    by_cases h1 : x < (t : Int)
    · rw [if_pos (decide_eq_true (show x < ((t + 1 : Nat) : Int) by omega)), if_pos (decide_eq_true h1), List.length_cons, List.length_cons, ih, List.count_cons_of_ne (by omega)]
      omega
    · by_cases h2 : x = (t : Int)
      · subst h2
        rw [if_pos (decide_eq_true (by omega)), if_neg (by simp), List.length_cons, ih, List.count_cons_self]
        omega
      · rw [if_neg (by simp; omega), if_neg (by simp; omega), ih, List.count_cons_of_ne (by omega)]
theorem tX_step (l : List Int) (t : Nat) : tX l (t + 1) = tX l t + (t : Int) * ((l.count (t : Int) : Nat) : Int) := by
  unfold tX
  induction l with
  | nil => simp
  | cons x r ih =>
    rw [List.filter_cons, List.filter_cons]
    by_cases h1 : x < (t : Int)
    · rw [if_pos (decide_eq_true (show x < ((t + 1 : Nat) : Int) by omega)), if_pos (decide_eq_true h1), List.sum_cons, List.sum_cons, ih, List.count_cons_of_ne (by omega)]
      omega
    · by_cases h2 : x = (t : Int)
      · subst h2
        rw [if_pos (decide_eq_true (by omega)), if_neg (by simp), List.sum_cons, ih, List.count_cons_self]
        push_cast
        rw [Int.mul_add, Int.mul_one]
        omega
      · rw [if_neg (by simp; omega), if_neg (by simp; omega), ih, List.count_cons_of_ne (by omega)]
theorem tA_le (l : List Int) (t : Nat) : tA l t ≤ l.length := List.length_filter_le _ _
theorem tX_bounds (l : List Int) (hb : ∀ x ∈ l, 0 ≤ x ∧ x ≤ 255) (t : Nat) : 0 ≤ tX l t ∧ tX l t ≤ 255 * (tA l t : Int) ∧ 0 ≤ l.sum - tX l t ∧ l.sum - tX l t ≤ 255 * ((l.length : Int) - (tA l t : Int)) := by
  unfold tX tA
  induction l with
  | nil => simp
  | cons x r ih =>
    have h := ih (fun y hy => hb y (List.mem_cons_of_mem _ hy))
    have hx := hb x (List.mem_cons_self ..)
    rw [List.filter_cons]
    by_cases h1 : x < (t : Int)
    · rw [if_pos (decide_eq_true h1), List.sum_cons, List.sum_cons, List.length_cons, List.length_cons]
      push_cast
      omega
    · rw [if_neg (by simpa using h1), List.sum_cons, List.length_cons]
      push_cast
      omega
/-- The gap of a threshold. -/
def tG (l : List Int) (t : Nat) : Int := (tA l t : Int) * (l.sum - tX l t) - ((l.length : Int) - (tA l t : Int)) * tX l t
/-- The product of both parts' sizes. -/
def tP (l : List Int) (t : Nat) : Int := (tA l t : Int) * ((l.length : Int) - (tA l t : Int))
theorem prod_half {a b : Nat} (h : a + b ≤ 256) : a * b ≤ 16384 := by
  have key : ∀ u v : Nat, u + v ≤ 256 → u ≤ 128 → u * v ≤ 16384 := by
    intro u v h1 h2
    obtain ⟨d, hd⟩ : ∃ d, u + d = 128 := ⟨128 - u, by omega⟩
    have h3 : u * v ≤ u * (128 + d) := Nat.mul_le_mul_left _ (by omega)
    have h4 : (u + d) * (u + d) = 128 * 128 := by rw [hd]
    have h5 : u * (128 + d) = u * u + 2 * (u * d) := by
      rw [← hd, Nat.mul_add, Nat.mul_add]
      omega
    rw [Nat.mul_add, Nat.add_mul, Nat.add_mul, Nat.mul_comm d u] at h4
    omega
  by_cases h1 : a ≤ 128
  · exact key a b h h1
  · rw [Nat.mul_comm]
    exact key b a (by omega) (by omega)
theorem tP_bounds (l : List Int) (hl : l.length ≤ 256) (t : Nat) : 0 ≤ tP l t ∧ tP l t ≤ 16384 := by
  have h1 := tA_le l t
  obtain ⟨b, hb⟩ : ∃ b, tA l t + b = l.length := ⟨l.length - tA l t, by omega⟩
  have h2 := prod_half (a := tA l t) (b := b) (by omega)
  unfold tP
  rw [show (l.length : Int) - (tA l t : Int) = (b : Int) by omega, ← Int.natCast_mul]
  omega
theorem tP_zero (l : List Int) (t : Nat) : tP l t = 0 ↔ tA l t = 0 ∨ tA l t = l.length := by
  unfold tP
  rw [Int.mul_eq_zero]
  have := tA_le l t
  omega
theorem tG_parts (l : List Int) (hb : ∀ x ∈ l, 0 ≤ x ∧ x ≤ 255) (hl : l.length ≤ 256) (t : Nat) : (0 ≤ (tA l t : Int) * (l.sum - tX l t) ∧ (tA l t : Int) * (l.sum - tX l t) ≤ 4177920) ∧ (0 ≤ ((l.length : Int) - (tA l t : Int)) * tX l t ∧ ((l.length : Int) - (tA l t : Int)) * tX l t ≤ 4177920) := by
  obtain ⟨h1, h2, h3, h4⟩ := tX_bounds l hb t
  have h5 := tA_le l t
  have h6 := tP_bounds l hl t
  unfold tP at h6
  have e1 : (tA l t : Int) * (l.sum - tX l t) ≤ (tA l t : Int) * (255 * ((l.length : Int) - (tA l t : Int))) := Int.mul_le_mul_of_nonneg_left h4 (by omega)
  have e2 : ((l.length : Int) - (tA l t : Int)) * tX l t ≤ ((l.length : Int) - (tA l t : Int)) * (255 * (tA l t : Int)) := Int.mul_le_mul_of_nonneg_left h2 (by omega)
  rw [Int.mul_left_comm] at e1 e2
  rw [Int.mul_comm ((l.length : Int) - (tA l t : Int)) (tA l t : Int)] at e2
  refine ⟨⟨Int.mul_nonneg (by omega) h3, by omega⟩, Int.mul_nonneg (by omega) h1, by omega⟩
theorem tG_bounds (l : List Int) (hb : ∀ x ∈ l, 0 ≤ x ∧ x ≤ 255) (hl : l.length ≤ 256) (t : Nat) : -4177920 ≤ tG l t ∧ tG l t ≤ 4177920 := by
  have := tG_parts l hb hl t
  unfold tG
  omega
theorem sq_bounds {g : Int} (h : -4177920 ≤ g ∧ g ≤ 4177920) : 0 ≤ g * g ∧ g * g ≤ 17455015526400 := by
  have key : ∀ n : Nat, n ≤ 4177920 → n * n ≤ 4177920 * 4177920 := fun n hn => Nat.mul_le_mul hn hn
  have h2 := key g.natAbs (by omega)
  have h3 : g * g = ((g.natAbs * g.natAbs : Nat) : Int) := by rw [Int.natCast_mul, Int.natAbs_mul_self']
  omega
theorem prod_bounds {u p : Int} (hu : 0 ≤ u ∧ u ≤ 17455015526400) (hp : 0 ≤ p ∧ p ≤ 16384) : 0 ≤ u * p ∧ u * p ≤ 285982974384537600 := by
  refine ⟨Int.mul_nonneg hu.1 hp.1, ?_⟩
  have h1 : u * p ≤ u * 16384 := Int.mul_le_mul_of_nonneg_left hp.2 hu.1
  omega
/-- Fractions compared by their quotients, then by their rests. -/
theorem frac_cmp {u v p q : Int} (hu : 0 ≤ u) (hv : 0 ≤ v) (hp : 0 < p) (hq : 0 < q) : (u / p > v / q ∨ (u / p = v / q ∧ u % p * q > v % q * p)) ↔ u * q > v * p := by
  have e1 : u * q = p * q * (u / p) + u % p * q := by
    conv => lhs; rw [← Int.mul_ediv_add_emod u p]
    rw [Int.add_mul, Int.mul_assoc, Int.mul_assoc, Int.mul_comm (u / p) q]
  have e2 : v * p = p * q * (v / q) + v % q * p := by
    conv => lhs; rw [← Int.mul_ediv_add_emod v q]
    rw [Int.add_mul, Int.mul_comm (q * (v / q)) p, ← Int.mul_assoc]
  have b1 : 0 ≤ u % p * q := Int.mul_nonneg (Int.emod_nonneg _ (by omega)) (by omega)
  have b2 : 0 ≤ v % q * p := Int.mul_nonneg (Int.emod_nonneg _ (by omega)) (by omega)
  have b3 : u % p * q < p * q := Int.mul_lt_mul_of_pos_right (Int.emod_lt_of_pos _ hp) hq
  have b4 : v % q * p < p * q := by rw [Int.mul_comm p q]; exact Int.mul_lt_mul_of_pos_right (Int.emod_lt_of_pos _ hq) hp
  have hpq : 0 < p * q := Int.mul_pos hp hq
  rw [e1, e2]
  generalize u / p = U
  generalize v / q = V
  generalize u % p * q = r at *
  generalize v % q * p = s at *
  generalize p * q = P at *
  rcases Int.lt_trichotomy U V with h | h | h
  · have : P * (U + 1) ≤ P * V := Int.mul_le_mul_of_nonneg_left (by omega) (by omega)
    rw [Int.mul_add, Int.mul_one] at this
    constructor <;> intro hh <;> omega
  · subst h
    constructor <;> intro hh <;> omega
  · have : P * (V + 1) ≤ P * U := Int.mul_le_mul_of_nonneg_left (by omega) (by omega)
    rw [Int.mul_add, Int.mul_one] at this
    constructor <;> intro hh
    · omega
    · exact Or.inl h
def tUp (l : List Int) (s : Nat) : Int := if s = 0 then -1 else tG l s * tG l s
def tDn (l : List Int) (s : Nat) : Int := if s = 0 then 1 else tP l s
/-- The best threshold up to one. -/
def thrTo (l : List Int) : Nat → Nat
  | 0 => 0
  | t + 1 => if tP l (t + 1) = 0 then thrTo l t else if tG l (t + 1) * tG l (t + 1) * tDn l (thrTo l t) > tUp l (thrTo l t) * tP l (t + 1) then t + 1 else thrTo l t
theorem thrTo_le (l : List Int) (t : Nat) : thrTo l t ≤ t := by
  induction t with
  | zero => exact Nat.le_refl _
  | succ t ih =>
    unfold thrTo
    split
    · omega
    · split <;> omega
theorem thr_first (l : List Int) (hb : ∀ x ∈ l, 0 ≤ x ∧ x ≤ 255) (hl : l.length ≤ 256) (t : Nat) (h : tP l t ≠ 0) : tG l t * tG l t * tDn l 0 > tUp l 0 * tP l t := by
  have h1 := sq_bounds (tG_bounds l hb hl t)
  have h2 := tP_bounds l hl t
  simp only [tDn, tUp, if_true]
  omega
theorem thrTo_part (l : List Int) (t : Nat) (h : thrTo l t ≠ 0) : tP l (thrTo l t) ≠ 0 := by
  induction t with
  | zero => exact absurd rfl h
  | succ t ih =>
    unfold thrTo at h ⊢
    split at h
    · rw [if_pos (by assumption)]
      exact ih h
    · rename_i h1
      rw [if_neg h1]
      split at h
      · rw [if_pos (by assumption)]
        exact h1
      · rw [if_neg (by assumption)]
        exact ih h
theorem tUp_bounds (l : List Int) (hb : ∀ x ∈ l, 0 ≤ x ∧ x ≤ 255) (hl : l.length ≤ 256) (s : Nat) : -1 ≤ tUp l s ∧ tUp l s ≤ 17455015526400 := by
  have h1 := sq_bounds (tG_bounds l hb hl s)
  unfold tUp
  split <;> omega
theorem tDn_bounds (l : List Int) (hl : l.length ≤ 256) (s : Nat) : 0 ≤ tDn l s ∧ tDn l s ≤ 16384 := by
  have h1 := tP_bounds l hl s
  unfold tDn
  split <;> omega
theorem wrap_up {u A B : Int} (hu : -1 ≤ u ∧ u ≤ 17455015526400) (hA : 0 ≤ A ∧ A ≤ 256) (hB : 0 ≤ B) (hP : A * B ≤ 16384) : wrap64 (wrap64 (u * A) * B) = u * (A * B) := by
  have h1 : u * A ≤ 17455015526400 * A := Int.mul_le_mul_of_nonneg_right hu.2 hA.1
  have h2 : (-1) * A ≤ u * A := Int.mul_le_mul_of_nonneg_right hu.1 hA.1
  have h0 : 0 ≤ A * B := Int.mul_nonneg hA.1 hB
  have h3 : u * (A * B) ≤ 17455015526400 * (A * B) := Int.mul_le_mul_of_nonneg_right hu.2 h0
  have h4 : (-1) * (A * B) ≤ u * (A * B) := Int.mul_le_mul_of_nonneg_right hu.1 h0
  rw [wrapIn (x := u * A) (by omega) (by omega), Int.mul_assoc, wrapIn (by omega) (by omega)]
theorem tA_wrap (l : List Int) (hl : l.length ≤ 256) (n : Nat) (hn : n < 256) : wrap64 ((tA l n : Int) + rd (histL l) (n : Int)) = (tA l (n + 1) : Int) := by
  have h1 := tA_step l n
  have h2 := tA_le l (n + 1)
  rw [histL_rd l n hn, wrapIn (by omega) (by omega)]
  omega
theorem tX_wrap (l : List Int) (hb : ∀ x ∈ l, 0 ≤ x ∧ x ≤ 255) (hl : l.length ≤ 256) (n : Nat) (hn : n < 256) : wrap64 (tX l n + wrap64 ((n : Int) * rd (histL l) (n : Int))) = tX l (n + 1) := by
  have h1 := tX_step l n
  have h2 := tX_bounds l hb n
  have h3 := tX_bounds l hb (n + 1)
  have h4 := tA_le l (n + 1)
  have h5 := tA_le l n
  rw [histL_rd l n hn]
  rw [wrapIn (x := (n : Int) * ((l.count (n : Int) : Nat) : Int)) (by omega) (by omega), wrapIn (by omega) (by omega)]
  omega
theorem spec_partsOf.ev_l1 (l : List Int) (hb : ∀ x ∈ l, 0 ≤ x ∧ x ≤ 255) (hl : l.length ≤ 256) (t : Nat) (d : Nat) : ∀ n, n ≤ 256 → 256 - n = d →
    Ev (fun k => spec_partsOf.l1 k (histL l) (tA l t : Int) ((tA l n : Int) - (tA l t : Int)) (n : Int)) ((tA l t : Int), (l.length : Int) - (tA l t : Int)) := by
  induction d with
  | zero =>
    intro n hn hd
    obtain rfl : n = 256 := by omega
    rw [tA_all l hb]
    exact Ev.step (fun k => by simp only [spec_partsOf.l1]; rfl) (evNeg (by omega) (evRet rfl))
  | succ d ih =>
    intro n hn hd
    have e : wrap64 ((tA l n : Int) - (tA l t : Int) + rd (histL l) (n : Int)) = (tA l (n + 1) : Int) - (tA l t : Int) := by
      have h1 := tA_step l n
      have h2 := tA_le l (n + 1)
      have h3 := tA_le l t
      rw [histL_rd l n (by omega), wrapIn (by omega) (by omega)]
      omega
    refine Ev.step (fun k => by simp only [spec_partsOf.l1, e, wrapSucc n (by omega)]; rfl) ?_
    exact evPos (by clear e; omega) (evPos (by clear e; omega) (evPos (by rw [histL_length]; clear e; omega) (ih (n + 1) (by clear e; omega) (by clear e; omega))))
theorem spec_partsOf.ev_l0 (l : List Int) (hb : ∀ x ∈ l, 0 ≤ x ∧ x ≤ 255) (hl : l.length ≤ 256) (t : Nat) (ht : t ≤ 256) (d : Nat) : ∀ n, n ≤ t → t - n = d →
    Ev (fun k => spec_partsOf.l0 k (histL l) (t : Int) (tA l n : Int) (n : Int)) ((tA l t : Int), (l.length : Int) - (tA l t : Int)) := by
  induction d with
  | zero =>
    intro n hn hd
    obtain rfl : n = t := by omega
    have h1 := tA_le l n
    have e : wrap64 (-(tA l n : Int)) = (tA l 0 : Int) - (tA l n : Int) := by
      rw [tA_zero l hb, wrapIn (by omega) (by omega)]
      omega
    refine Ev.step (fun k => by simp only [spec_partsOf.l0, e]; rfl) (evNeg (by clear e; omega) ?_)
    exact spec_partsOf.ev_l1 l hb hl n 256 0 (by omega) (by omega)
  | succ d ih =>
    intro n hn hd
    have e := tA_wrap l hl n (by omega)
    refine Ev.step (fun k => by simp only [spec_partsOf.l0, e, wrapSucc n (by omega)]; rfl) ?_
    exact evPos (by clear e; omega) (evPos (by clear e; omega) (evPos (by rw [histL_length]; clear e; omega) (ih (n + 1) (by clear e; omega) (by clear e; omega))))
theorem spec_partsOf.ev (l : List Int) (hb : ∀ x ∈ l, 0 ≤ x ∧ x ≤ 255) (hl : l.length ≤ 256) (t : Nat) (ht : t ≤ 256) : Ev (fun k => spec_partsOf.f k (histL l) (t : Int)) ((tA l t : Int), (l.length : Int) - (tA l t : Int)) := by
  have h := spec_partsOf.ev_l0 l hb hl t ht t 0 (by omega) (by omega)
  rw [tA_zero l hb] at h
  unfold spec_partsOf.f
  exact h
theorem spec_between.ev_two (l : List Int) (hb : ∀ x ∈ l, 0 ≤ x ∧ x ≤ 255) (hl : l.length ≤ 256) (t : Nat) (ht : t ≤ 256) (d : Nat) : ∀ n, t ≤ n → n ≤ 256 → 256 - n = d →
    Ev (fun k => spec_between.l0 k (histL l) (t : Int) (tA l t : Int) ((tA l n : Int) - (tA l t : Int)) (tX l t) (tX l n - tX l t) (n : Int)) (tG l t) := by
  induction d with
  | zero =>
    intro n h0 hn hd
    obtain rfl : n = 256 := by omega
    have hp := tG_parts l hb hl t
    rw [tA_all l hb, tX_all l hb]
    refine Ev.step (fun k => by simp only [spec_between.l0]; rfl) (evNeg (by omega) (evRet ?_))
    rw [wrapIn (x := (tA l t : Int) * (l.sum - tX l t)) (by omega) (by omega), wrapIn (x := ((l.length : Int) - (tA l t : Int)) * tX l t) (by omega) (by omega), wrapIn (by omega) (by omega)]
    rfl
  | succ d ih =>
    intro n h0 hn hd
    have e : wrap64 ((tA l n : Int) - (tA l t : Int) + rd (histL l) (n : Int)) = (tA l (n + 1) : Int) - (tA l t : Int) := by
      have h1 := tA_step l n
      have h2 := tA_le l (n + 1)
      have h3 := tA_le l t
      rw [histL_rd l n (by omega), wrapIn (by omega) (by omega)]
      omega
    have e2 : wrap64 (tX l n - tX l t + wrap64 ((n : Int) * rd (histL l) (n : Int))) = tX l (n + 1) - tX l t := by
      have h1 := tX_step l n
      have h2 := tX_bounds l hb n
      have h3 := tX_bounds l hb (n + 1)
      have h4 := tX_bounds l hb t
      have h5 := tA_le l (n + 1)
      have h6 := tA_le l n
      have h7 := tA_le l t
      rw [histL_rd l n (by omega), wrapIn (x := (n : Int) * ((l.count (n : Int) : Nat) : Int)) (by omega) (by omega), wrapIn (by omega) (by omega)]
      omega
    have hn' := ih (n + 1) (by omega) (by omega) (by omega)
    refine Ev.step (fun k => by simp only [spec_between.l0, e, e2, wrapSucc n (by omega)]; rfl) ?_
    clear e e2
    exact evPos (by omega) (evNeg (by omega) (evPos (by omega) (evPos (by rw [histL_length]; omega) hn')))
theorem spec_between.ev_one (l : List Int) (hb : ∀ x ∈ l, 0 ≤ x ∧ x ≤ 255) (hl : l.length ≤ 256) (t : Nat) (ht : t ≤ 256) (d : Nat) : ∀ n, n ≤ t → t - n = d →
    Ev (fun k => spec_between.l0 k (histL l) (t : Int) (tA l n : Int) 0 (tX l n) 0 (n : Int)) (tG l t) := by
  induction d with
  | zero =>
    intro n hn hd
    obtain rfl : n = t := by omega
    have h := spec_between.ev_two l hb hl n ht (256 - n) n (Nat.le_refl _) ht rfl
    rw [Int.sub_self, Int.sub_self] at h
    exact h
  | succ d ih =>
    intro n hn hd
    have e := tA_wrap l hl n (by omega)
    have e2 := tX_wrap l hb hl n (by omega)
    have hn' := ih (n + 1) (by omega) (by omega)
    refine Ev.step (fun k => by simp only [spec_between.l0, e, e2, wrapSucc n (by omega)]; rfl) ?_
    clear e e2
    exact evPos (by omega) (evPos (by omega) (evPos (by omega) (evPos (by rw [histL_length]; omega) hn')))
theorem spec_between.ev (l : List Int) (hb : ∀ x ∈ l, 0 ≤ x ∧ x ≤ 255) (hl : l.length ≤ 256) (t : Nat) (ht : t ≤ 256) : Ev (fun k => spec_between.f k (histL l) (t : Int)) (tG l t) := by
  have h := spec_between.ev_one l hb hl t ht t 0 (by omega) (by omega)
  rw [tA_zero l hb, tX_zero l hb] at h
  unfold spec_between.f
  exact h
theorem frac_wrap {u p : Int} (hu : 0 ≤ u ∧ u ≤ 17455015526400) (hp : 0 < p ∧ p ≤ 16384) : wrap64 (Int.tdiv u p) = u / p := by
  have h1 : u / p ≤ u := Int.ediv_le_self _ hu.1
  have h2 : 0 ≤ u / p := Int.ediv_nonneg hu.1 (by omega)
  rw [Int.tdiv_eq_ediv_of_nonneg hu.1, wrapIn (by omega) (by omega)]
theorem rest_wrap {u p q : Int} (hu : 0 ≤ u) (hp : 0 < p ∧ p ≤ 16384) (hq : 0 < q ∧ q ≤ 16384) : wrap64 (Int.tmod u p * q) = u % p * q := by
  have h1 := Int.emod_nonneg u (show p ≠ 0 by omega)
  have h2 := Int.emod_lt_of_pos u hp.1
  have h3 : 0 ≤ u % p * q := Int.mul_nonneg h1 (by omega)
  have h4 : u % p * q ≤ 16384 * q := Int.mul_le_mul_of_nonneg_right (by omega) (by omega)
  rw [Int.tmod_eq_emod_of_nonneg hu, wrapIn (by omega) (by omega)]
theorem spec_ThresholdOf.ev_l0 (l : List Int) (hb : ∀ x ∈ l, 0 ≤ x ∧ x ≤ 255) (hl : l.length ≤ 256) (d : Nat) : ∀ m, m ≤ 255 → 255 - m = d →
    Ev (fun k => spec_ThresholdOf.l0 k (thrTo l m : Int) (histL l) ((m + 1 : Nat) : Int)) (thrTo l 255 : Int) := by
  induction d with
  | zero =>
    intro m hm hd
    obtain rfl : m = 255 := by omega
    exact Ev.step (fun k => by simp only [spec_ThresholdOf.l0]; rfl) (evNeg (by omega) (evRet rfl))
  | succ d ih =>
    intro m hm hd
    have hn := ih (m + 1) (by omega) (by omega)
    have hP := spec_partsOf.ev l hb hl (m + 1) (by omega)
    have hs := thrTo_le l m
    have hP2 := spec_partsOf.ev l hb hl (thrTo l m) (by omega)
    have hB1 := spec_between.ev l hb hl (m + 1) (by omega)
    have hB2 := spec_between.ev l hb hl (thrTo l m) (by omega)
    have hz := tP_zero l (m + 1)
    have hle := tA_le l (m + 1)
    have hw := wrapSucc (m + 1) (by omega)
    refine Ev.step (fun k => by simp only [spec_ThresholdOf.l0]; rfl) (evPos (by omega) (evBind hP ?_))
    by_cases h0 : tP l (m + 1) = 0
    · have e : thrTo l (m + 1) = thrTo l m := by conv => lhs; unfold thrTo; rw [if_pos h0]
      rw [e, ← hw] at hn
      by_cases h1 : tA l (m + 1) = 0
      · exact evPos (by omega) (Ev.step (fun k => by simp only [spec_ThresholdOf.j2]; rfl) (evPos (by trivial) hn))
      · refine evNeg (by omega) ?_
        have e2 : (((l.length : Int) - (tA l (m + 1) : Int)) == 0) = true := by rw [beq_iff_eq]; omega
        simp only [e2]
        exact Ev.step (fun k => by simp only [spec_ThresholdOf.j2]; rfl) (evPos (by trivial) hn)
    · have h1 : ¬ (tA l (m + 1) = 0 ∨ tA l (m + 1) = l.length) := fun h => h0 (hz.2 h)
      have e2 : (((l.length : Int) - (tA l (m + 1) : Int)) == 0) = false := by rw [beq_eq_false_iff_ne]; omega
      have b1 := tP_bounds l hl (m + 1)
      have g1 := sq_bounds (tG_bounds l hb hl (m + 1))
      have w1 : wrap64 ((tA l (m + 1) : Int) * ((l.length : Int) - (tA l (m + 1) : Int))) = tP l (m + 1) := by
        unfold tP at b1 ⊢
        rw [wrapIn (by omega) (by omega)]
      have w2 : wrap64 (tG l (m + 1) * tG l (m + 1)) = tG l (m + 1) * tG l (m + 1) := wrapIn (by omega) (by omega)
      have b3 := tP_bounds l hl (thrTo l m)
      have g3 := sq_bounds (tG_bounds l hb hl (thrTo l m))
      have w3 : wrap64 ((tA l (thrTo l m) : Int) * ((l.length : Int) - (tA l (thrTo l m) : Int))) = tP l (thrTo l m) := by
        unfold tP at b3 ⊢
        rw [wrapIn (by omega) (by omega)]
      have w4 : wrap64 (tG l (thrTo l m) * tG l (thrTo l m)) = tG l (thrTo l m) * tG l (thrTo l m) := wrapIn (by omega) (by omega)
      refine evNeg (by omega) ?_
      simp only [e2]
      have hsel : thrTo l (m + 1) = if tG l (m + 1) * tG l (m + 1) * tDn l (thrTo l m) > tUp l (thrTo l m) * tP l (m + 1) then m + 1 else thrTo l m := by conv => lhs; unfold thrTo; rw [if_neg h0]
      refine Ev.step (fun k => by simp only [spec_ThresholdOf.j2]; rfl) (evNeg (by simp) (evBind hP2 (evBind hB1 (evBind hB2 ?_))))
      simp only [w1, w2, w3, w4]
      rw [← hw] at hn
      clear hw w1 w2 w3 w4
      by_cases hs0 : thrTo l m = 0
      · have hc := thr_first l hb hl (m + 1) h0
        rw [← hs0] at hc
        rw [if_pos hc] at hsel
        rw [hsel] at hn
        exact evPos (by omega) hn
      · have h3 := thrTo_part l m hs0
        have hu : tUp l (thrTo l m) = tG l (thrTo l m) * tG l (thrTo l m) := by unfold tUp; rw [if_neg hs0]
        have hdn : tDn l (thrTo l m) = tP l (thrTo l m) := by unfold tDn; rw [if_neg hs0]
        rw [hu, hdn] at hsel
        have hf := frac_cmp g1.1 g3.1 (show 0 < tP l (m + 1) by omega) (show 0 < tP l (thrTo l m) by omega)
        have f1 := frac_wrap g1 (show 0 < tP l (m + 1) ∧ _ from ⟨by omega, b1.2⟩)
        have f2 := frac_wrap g3 (show 0 < tP l (thrTo l m) ∧ _ from ⟨by omega, b3.2⟩)
        have f3 := rest_wrap g1.1 (show 0 < tP l (m + 1) ∧ _ from ⟨by omega, b1.2⟩) (show 0 < tP l (thrTo l m) ∧ _ from ⟨by omega, b3.2⟩)
        have f4 := rest_wrap g3.1 (show 0 < tP l (thrTo l m) ∧ _ from ⟨by omega, b3.2⟩) (show 0 < tP l (m + 1) ∧ _ from ⟨by omega, b1.2⟩)
        refine evNeg (by omega) (evNeg h0 (evNeg h3 ?_))
        simp only [f1, f2, f3, f4]
        clear f1 f2 f3 f4
        by_cases c1 : tG l (m + 1) * tG l (m + 1) / tP l (m + 1) > tG l (thrTo l m) * tG l (thrTo l m) / tP l (thrTo l m)
        · rw [if_pos (hf.1 (Or.inl c1))] at hsel
          rw [hsel] at hn
          exact evPos c1 hn
        · refine evNeg c1 ?_
          by_cases c2 : tG l (m + 1) * tG l (m + 1) / tP l (m + 1) = tG l (thrTo l m) * tG l (thrTo l m) / tP l (thrTo l m)
          · refine evPos c2 ?_
            by_cases c3 : tG l (m + 1) * tG l (m + 1) % tP l (m + 1) * tP l (thrTo l m) > tG l (thrTo l m) * tG l (thrTo l m) % tP l (thrTo l m) * tP l (m + 1)
            · rw [if_pos (hf.1 (Or.inr ⟨c2, c3⟩))] at hsel
              rw [hsel] at hn
              exact evPos c3 hn
            · rw [if_neg (fun h => (hf.2 h).elim c1 (fun h' => c3 h'.2))] at hsel
              rw [hsel] at hn
              exact evNeg c3 hn
          · rw [if_neg (fun h => (hf.2 h).elim c1 (fun h' => c2 h'.1))] at hsel
            rw [hsel] at hn
            exact evNeg c2 hn
theorem gray_len {a b c : Int} {l : List Int} (h : GrayOk a b c l) : l.length ≤ 256 := by
  obtain ⟨W, H, p, rfl, rfl, rfl, hlen, b1, b2, b3, b4, b5, b6⟩ := h.1.nats
  have hp : p = 1 := by have := h.2; omega
  subst hp
  have : W * H ≤ 16 * 16 := Nat.mul_le_mul b4 b5
  omega
theorem spec_ThresholdOf.ev (a b c : Int) (l : List Int) (hl : l.length ≤ 9223372036854775806) : Ev (fun k => spec_ThresholdOf.f k a b c l) (if GrayOk a b c l then (thrTo l 255 : Int) else -1) := by
  unfold spec_ThresholdOf.f
  refine evBind (spec_validImage.ev a b c l hl) ?_
  by_cases h : ImgOk a b c l
  · refine evPos (decide_eq_true h) ?_
    by_cases hc : c = 1
    · have hg : GrayOk a b c l := ⟨h, hc⟩
      have hc2 : (c != 1) = false := by rw [hc]; rfl
      rw [if_pos hg, hc2]
      refine Ev.step (fun k => by simp only [spec_ThresholdOf.j0]; rfl) (evNeg (by simp) (evBind (spec_histogram.ev l h.2.2.2.2 (by have := gray_len hg; omega)) ?_))
      exact spec_ThresholdOf.ev_l0 l h.2.2.2.2 (gray_len hg) 255 0 (by omega) (by omega)
    · have hc2 : (c != 1) = true := by rw [bne_iff_ne]; exact hc
      rw [if_neg (fun hg : GrayOk a b c l => hc hg.2), hc2]
      exact Ev.step (fun k => by simp only [spec_ThresholdOf.j0]; rfl) (evPos (by trivial) (evRet rfl))
  · rw [if_neg (fun hg : GrayOk a b c l => h hg.1)]
    exact evNeg (by rw [decide_eq_false h]; simp) (Ev.step (fun k => by simp only [spec_ThresholdOf.j0]; rfl) (evPos (by trivial) (evRet rfl)))
theorem impl_ThresholdOf.ev_l1 (a b c : Int) (l : List Int) (hb : ∀ x ∈ l, 0 ≤ x ∧ x ≤ 255) (hl : l.length ≤ 256) (d : Nat) : ∀ m, m ≤ 255 → 255 - m = d →
    Ev (fun k => impl_ThresholdOf.l1 k (histL l) l.sum (thrTo l m : Int) (tUp l (thrTo l m)) (tDn l (thrTo l m)) (tA l m : Int) (tX l m) ((m + 1 : Nat) : Int) a b c l) (thrTo l 255 : Int) := by
  induction d with
  | zero =>
    intro m hm hd
    obtain rfl : m = 255 := by omega
    exact Ev.step (fun k => by simp only [impl_ThresholdOf.l1]; rfl) (evNeg (by omega) (evRet rfl))
  | succ d ih =>
    intro m hm hd
    have hn := ih (m + 1) (by omega) (by omega)
    have hz := tP_zero l (m + 1)
    have hle := tA_le l (m + 1)
    have hX := tX_bounds l hb (m + 1)
    have hw := wrapSucc (m + 1) (by omega)
    have w0 : wrap64 (((m + 1 : Nat) : Int) - 1) = (m : Int) := by rw [wrapIn (by omega) (by omega)]; omega
    have w1 := tA_wrap l hl m (by omega)
    have w2 := tX_wrap l hb hl m (by omega)
    have w3 : wrap64 ((l.length : Int) - (tA l (m + 1) : Int)) = (l.length : Int) - (tA l (m + 1) : Int) := wrapIn (by omega) (by omega)
    have w4 : wrap64 (l.sum - tX l (m + 1)) = l.sum - tX l (m + 1) := wrapIn (by omega) (by omega)
    refine Ev.step (fun k => by simp only [impl_ThresholdOf.l1, w0, w1, w2, w3, w4]; rfl) ?_
    rw [← hw] at hn
    clear hw w0 w1 w2 w3 w4
    refine evPos (by omega) (evPos (by omega) (evPos (by rw [histL_length]; omega) ?_))
    by_cases h0 : tP l (m + 1) = 0
    · have e : thrTo l (m + 1) = thrTo l m := by conv => lhs; unfold thrTo; rw [if_pos h0]
      rw [e] at hn
      by_cases h1 : tA l (m + 1) = 0
      · exact evPos (by omega) (Ev.step (fun k => by simp only [impl_ThresholdOf.j3]; rfl) (evPos (by trivial) hn))
      · refine evNeg (by omega) ?_
        have e2 : (((l.length : Int) - (tA l (m + 1) : Int)) == 0) = true := by rw [beq_iff_eq]; omega
        simp only [e2]
        exact Ev.step (fun k => by simp only [impl_ThresholdOf.j3]; rfl) (evPos (by trivial) hn)
    · have h1 : ¬ (tA l (m + 1) = 0 ∨ tA l (m + 1) = l.length) := fun h => h0 (hz.2 h)
      have e2 : (((l.length : Int) - (tA l (m + 1) : Int)) == 0) = false := by rw [beq_eq_false_iff_ne]; omega
      have b1 := tP_bounds l hl (m + 1)
      have g0 := tG_bounds l hb hl (m + 1)
      have g1 := sq_bounds g0
      have gp := tG_parts l hb hl (m + 1)
      have b3 := tDn_bounds l hl (thrTo l m)
      have b4 := tUp_bounds l hb hl (thrTo l m)
      have b5 := prod_bounds g1 b3
      have v1 : wrap64 ((tA l (m + 1) : Int) * (l.sum - tX l (m + 1))) = (tA l (m + 1) : Int) * (l.sum - tX l (m + 1)) := wrapIn (by omega) (by omega)
      have v2 : wrap64 (((l.length : Int) - (tA l (m + 1) : Int)) * tX l (m + 1)) = ((l.length : Int) - (tA l (m + 1) : Int)) * tX l (m + 1) := wrapIn (by omega) (by omega)
      have v3 : wrap64 ((tA l (m + 1) : Int) * (l.sum - tX l (m + 1)) - ((l.length : Int) - (tA l (m + 1) : Int)) * tX l (m + 1)) = tG l (m + 1) := by unfold tG; exact wrapIn (by omega) (by omega)
      have v4 : wrap64 (tG l (m + 1) * tG l (m + 1)) = tG l (m + 1) * tG l (m + 1) := wrapIn (by omega) (by omega)
      have v5 : wrap64 (tG l (m + 1) * tG l (m + 1) * tDn l (thrTo l m)) = tG l (m + 1) * tG l (m + 1) * tDn l (thrTo l m) := wrapIn (by omega) (by omega)
      have v6 : wrap64 (wrap64 (tUp l (thrTo l m) * (tA l (m + 1) : Int)) * ((l.length : Int) - (tA l (m + 1) : Int))) = tUp l (thrTo l m) * tP l (m + 1) := wrap_up b4 ⟨by omega, by omega⟩ (by omega) b1.2
      have v7 : wrap64 ((tA l (m + 1) : Int) * ((l.length : Int) - (tA l (m + 1) : Int))) = tP l (m + 1) := by
        unfold tP at b1 ⊢
        exact wrapIn (by omega) (by omega)
      have hsel : thrTo l (m + 1) = if tG l (m + 1) * tG l (m + 1) * tDn l (thrTo l m) > tUp l (thrTo l m) * tP l (m + 1) then m + 1 else thrTo l m := by conv => lhs; unfold thrTo; rw [if_neg h0]
      refine evNeg (by clear v1 v2 v3 v4 v5 v6 v7; omega) ?_
      simp only [e2]
      refine Ev.step (fun k => by simp only [impl_ThresholdOf.j3, v1, v2, v3, v4, v5, v6, v7]; rfl) (evNeg (by simp) ?_)
      clear v1 v2 v3 v4 v5 v6 v7
      by_cases hc : tG l (m + 1) * tG l (m + 1) * tDn l (thrTo l m) > tUp l (thrTo l m) * tP l (m + 1)
      · rw [if_pos hc] at hsel
        have hu : tUp l (m + 1) = tG l (m + 1) * tG l (m + 1) := by unfold tUp; rw [if_neg (by omega)]
        have hdn : tDn l (m + 1) = tP l (m + 1) := by unfold tDn; rw [if_neg (by omega)]
        rw [hsel, hu, hdn] at hn
        exact evPos hc hn
      · rw [if_neg hc] at hsel
        rw [hsel] at hn
        exact evNeg hc hn
theorem sum_part (l : List Int) (hb : ∀ x ∈ l, 0 ≤ x ∧ x ≤ 255) : 0 ≤ l.sum ∧ l.sum ≤ 255 * (l.length : Int) := by
  have h := tX_bounds l hb 0
  rw [tX_zero l hb, tA_zero l hb] at h
  omega
theorem impl_ThresholdOf.ev_l0 (a b c : Int) (l : List Int) (hb : ∀ x ∈ l, 0 ≤ x ∧ x ≤ 255) (hl : l.length ≤ 256) (d : Nat) : ∀ i, i ≤ l.length → l.length - i = d →
    Ev (fun k => impl_ThresholdOf.l0 k (histL l) (l.take i).sum l (l.length : Int) (i : Int) a b c l) (thrTo l 255 : Int) := by
  induction d with
  | zero =>
    intro i hi hd
    rw [List.take_of_length_le (by omega)]
    refine Ev.step (fun k => by simp only [impl_ThresholdOf.l0]; rfl) (evNeg (by omega) ?_)
    have h := impl_ThresholdOf.ev_l1 a b c l hb hl 255 0 (by omega) (by omega)
    rw [tA_zero l hb, tX_zero l hb] at h
    exact h
  | succ d ih =>
    intro i hi hd
    have hlt : i < l.length := by omega
    have hn := ih (i + 1) (by omega) (by omega)
    have hs : (l.take (i + 1)).sum = (l.take i).sum + l[i] := by
      rw [List.take_succ_eq_append_getElem hlt, List.sum_append]
      simp
    have h1 := sum_part (l.take (i + 1)) (fun x hx => hb x (List.mem_of_mem_take hx))
    have h2 := List.length_take_le (i + 1) l
    have h3 : (l.take (i + 1)).length ≤ 256 := by rw [List.length_take]; omega
    have e : wrap64 ((l.take i).sum + l[i]) = (l.take (i + 1)).sum := by rw [← hs]; exact wrapIn (by omega) (by omega)
    refine Ev.step (fun k => by simp only [impl_ThresholdOf.l0, rdN l i hlt, e, wrapSucc i (by omega)]; rfl) ?_
    clear e
    exact evPos (by omega) (evPos (by omega) (evPos (by omega) hn))
theorem impl_ThresholdOf.ev (a b c : Int) (l : List Int) : Ev (fun k => impl_ThresholdOf.f k a b c l) (if GrayOk a b c l then (thrTo l 255 : Int) else -1) := by
  unfold impl_ThresholdOf.f
  refine evFix (impl_isImage.eq a b c l) ?_
  by_cases h : ImgOk a b c l
  · refine evPos (decide_eq_true h) ?_
    by_cases hc : c = 1
    · have hg : GrayOk a b c l := ⟨h, hc⟩
      have hc2 : (c != 1) = false := by rw [hc]; rfl
      rw [if_pos hg, hc2]
      refine Ev.step (fun k => by simp only [impl_ThresholdOf.j0]; rfl) (evNeg (by simp) (evBind (impl_histogram.ev a b c l h.2.2.2.2 (by have := gray_len hg; omega)) ?_))
      exact impl_ThresholdOf.ev_l0 a b c l h.2.2.2.2 (gray_len hg) l.length 0 (by omega) (by omega)
    · have hc2 : (c != 1) = true := by rw [bne_iff_ne]; exact hc
      rw [if_neg (fun hg : GrayOk a b c l => hc hg.2), hc2]
      exact Ev.step (fun k => by simp only [impl_ThresholdOf.j0]; rfl) (evPos (by trivial) (evRet rfl))
  · rw [if_neg (fun hg : GrayOk a b c l => h hg.1)]
    exact evNeg (by rw [decide_eq_false h]; simp) (Ev.step (fun k => by simp only [impl_ThresholdOf.j0]; rfl) (evPos (by trivial) (evRet rfl)))

theorem FnExactThresholdOf : laws_FnExactThresholdOf.Pure := by
  intro a b c l _ _ _ hl _
  refine Ev.rounds ?_
  unfold laws_FnExactThresholdOf.f
  refine evFix (laws_szImage.val a b c l 1048576 (by omega) (by omega) hl) ?_
  by_cases hlt : (1048576 : Int) < l.length
  · rw [if_pos hlt]
    exact evPos (by omega) (evRet rfl)
  rw [if_neg hlt]
  have hb : l.length ≤ 1048576 := by omega
  have h1 := laws_toImage.ev a b c l (by omega)
  have h3 := spec_ThresholdOf.ev a b c l (by omega)
  have h4 := impl_ThresholdOf.ev a b c l
  generalize (if GrayOk a b c l then (thrTo l 255 : Int) else -1) = r at *
  have heql := laws_eqImage.refl a b c l (by omega)
  repeat' first
    | exact evRet rfl
    | refine evFix (by assumption) ?_
    | refine evBind (by assumption) ?_
    | refine evPos (by first | omega | with_reducible rfl | exact True.intro) ?_
    | refine evNeg (by first | omega | (simp only []; omega) | simp) ?_

end Go.Proofs.Ytonolnojpejgnaa.Pure
