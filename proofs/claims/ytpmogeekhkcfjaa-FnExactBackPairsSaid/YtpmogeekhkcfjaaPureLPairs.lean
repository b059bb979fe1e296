/- A part of this work's pure proofs. -/
import Derived.Test.YtpmogeekhkcfjaaPrintHhandWords
import Derived.Test.YtpmogeekhkcfjaaPrintHimplisPairList
import Derived.Test.YtpmogeekhkcfjaaPrintR0x0
import Derived.Test.YtpmogeekhkcfjaaPrintR0x1
import Derived.Test.YtpmogeekhkcfjaaPrintR0x2
import Derived.Test.YtpmogeekhkcfjaaPrintR0x3
import Derived.Test.YtpmogeekhkcfjaaPrintR1x0
import Derived.Test.YtpmogeekhkcfjaaPureLInts
import Derived.Test.YtpmogeekhkcfjaaPureLallIn
namespace Go.Proofs.Ytpmogeekhkcfjaa.Pure
open Go.RowKit Go.Proofs.Ytpmogeekhkcfjaa.Print Go.Proofs.YtpmogeekhkcfjaaW.PrintWords Go.Proofs.YtpmogeekhkcfjaaW.PrintLast Go.Proofs.YtpmogeekhkcfjaaW.PrintMore
set_option linter.unusedVariables false
set_option linter.unusedSimpArgs false
/-! ### Means and differences of pairs -/
def mean2 (a b : Int) : Int := (a + b) / 2
def meansP : List Int → List Int
  | a :: b :: t => mean2 a b :: meansP t
  | l => l
def gapsP : List Int → List Int
  | a :: b :: t => (a - b) :: gapsP t
  | _ => []
def fwdP (l : List Int) : List Int := meansP l ++ gapsP l
def inPair (x : Int) : Prop := -999 ≤ x ∧ x ≤ 999
instance (x : Int) : Decidable (inPair x) := by unfold inPair; exact inferInstance
/-- A list that can be transformed. -/
def PairOk (l : List Int) : Prop := l.length ≤ 64 ∧ ∀ x ∈ l, inPair x
instance (l : List Int) : Decidable (PairOk l) := by unfold PairOk; exact inferInstance
theorem meansP_length (l : List Int) : (meansP l).length = (l.length + 1) / 2 := by
  induction l using meansP.induct with
  | case1 a b t ih => simp [meansP, ih]; omega
  | case2 l h =>
    match l, h with
    | [], _ => rfl
    | [a], _ => simp [meansP, gapsP]
    | a :: b :: t, h => exact absurd rfl (h a b t)
theorem gapsP_length (l : List Int) : (gapsP l).length = l.length / 2 := by
  induction l using meansP.induct with
  | case1 a b t ih => simp [gapsP, ih]; omega
  | case2 l h =>
    match l, h with
    | [], _ => rfl
    | [a], _ => simp [meansP, gapsP]
    | a :: b :: t, h => exact absurd rfl (h a b t)
theorem fwdP_length (l : List Int) : (fwdP l).length = l.length := by
  unfold fwdP
  rw [List.length_append, meansP_length, gapsP_length]
  omega
theorem implFloor2 (a : Int) (h0 : -1000000 ≤ a) (h1 : a ≤ 1000000) : impl_floorDiv.f a 2 = some (a / 2) := by
  unfold impl_floorDiv.f
  have ht : Int.tdiv a 2 = if 0 ≤ a then a / 2 else -((-a) / 2) := by
    split
    · rw [Int.tdiv_eq_ediv_of_nonneg (by omega)]
    · have := Int.tdiv_eq_ediv_of_nonneg (a := -a) (b := 2) (by omega)
      rw [Int.neg_tdiv] at this
      omega
  rw [if_neg (by omega), ht]
  split
  · rw [wrapIn (x := a / 2) (by omega) (by omega), wrapIn (x := a / 2 * 2) (by omega) (by omega), if_neg (by omega)]
  · rw [wrapIn (x := -(-a / 2)) (by omega) (by omega), wrapIn (x := -(-a / 2) * 2) (by omega) (by omega), wrapIn (x := -(-a / 2) - 1) (by omega) (by omega)]
    split
    · congr 1; omega
    · congr 1; omega
theorem specFloor2 (a : Int) (h0 : -1000000 ≤ a) (h1 : a ≤ 1000000) : spec_floorDiv.f a 2 = some (a / 2) := by
  unfold spec_floorDiv.f
  have hm := Int.mul_tdiv_add_tmod a 2
  have ht : Int.tdiv a 2 = if 0 ≤ a then a / 2 else -((-a) / 2) := by
    split
    · rw [Int.tdiv_eq_ediv_of_nonneg (by omega)]
    · have := Int.tdiv_eq_ediv_of_nonneg (a := -a) (b := 2) (by omega)
      rw [Int.neg_tdiv] at this
      omega
  generalize Int.tdiv a 2 = q at *
  generalize Int.tmod a 2 = m at *
  have hq : (0 ≤ a ∧ q = a / 2) ∨ (a < 0 ∧ q = -((-a) / 2)) := by
    split at ht
    · exact .inl ⟨by assumption, ht⟩
    · exact .inr ⟨by omega, ht⟩
  rw [if_neg (by omega), wrapIn (x := q) (by omega) (by omega), wrapIn (x := q - 1) (by omega) (by omega)]
  split
  · congr 1; omega
  · congr 1; omega
theorem spec_validPairs.ev (l : List Int) (hl : l.length ≤ 9223372036854775806) : Ev (fun k => spec_validPairs.f k l) (decide (PairOk l)) := by
  unfold spec_validPairs.f
  refine evIf (fun h => ?_) (fun h => evRet ?_)
  · refine evBind (spec_allIn.ev l _ _ hl) (evRet ?_)
    rw [Bool.eq_iff_iff, allB_iff, decide_eq_true_eq]
    unfold PairOk inPair
    exact ⟨fun h2 => ⟨by omega, h2⟩, fun h2 => h2.2⟩
  · rw [eq_comm, decide_eq_false_iff_not]
    intro h2
    have := h2.1
    omega
theorem impl_isPairList.val (l : List Int) : impl_isPairList.f l = some (decide (PairOk l)) := by
  unfold impl_isPairList.f
  congr 1
  rw [Bool.eq_iff_iff]
  simp only [Bool.and_eq_true, decide_eq_true_eq, Bool.not_eq_true', List.any_eq_false, Bool.or_eq_true, not_or]
  unfold PairOk inPair
  exact ⟨fun h => ⟨h.1, fun x hx => by have := h.2 x hx; omega⟩, fun h => ⟨h.1, fun x hx => by have := h.2 x hx; omega⟩⟩
theorem meansP_two (l : List Int) (i : Nat) (h : i + 1 < l.length) : meansP (l.drop i) = mean2 l[i] l[i + 1] :: meansP (l.drop (i + 2)) := by
  rw [drop_cons_ l i (by omega), drop_cons_ l (i + 1) (by omega)]
  rfl
theorem gapsP_two (l : List Int) (i : Nat) (h : i + 1 < l.length) : gapsP (l.drop i) = (l[i] - l[i + 1]) :: gapsP (l.drop (i + 2)) := by
  rw [drop_cons_ l i (by omega), drop_cons_ l (i + 1) (by omega)]
  rfl
theorem spec_forward.ev_l0 (l : List Int) (hl : PairOk l) (d : Nat) : ∀ i x3 x4, i ≤ l.length → l.length - i = d → i % 2 = 0 → x3.length ≤ i → x4.length ≤ i →
    Ev (fun k => spec_forward.l0 k l x3 x4 (i : Int)) ((x3 ++ meansP (l.drop i)) ++ (x4 ++ gapsP (l.drop i))) := by
  obtain ⟨hlen, hin⟩ := hl
  induction d using Nat.strongRecOn with
  | _ d ih =>
    intro i x3 x4 hi hd he h3 h4
    have hw : wrap64 ((i : Int) + 1) = ((i + 1 : Nat) : Int) := wrapSucc i (by omega)
    have hw2 : wrap64 ((i : Int) + 2) = ((i + 2 : Nat) : Int) := wrapIn (by omega) (by omega)
    by_cases h : i + 1 < l.length
    · have b0 := hin l[i] (List.getElem_mem _)
      have b1 := hin l[i + 1] (List.getElem_mem _)
      unfold inPair at b0 b1
      have hs : wrap64 (l[i] + l[i + 1]) = l[i] + l[i + 1] := wrapIn (by omega) (by omega)
      have hg : wrap64 (l[i] - l[i + 1]) = l[i] - l[i + 1] := wrapIn (by omega) (by omega)
      refine Ev.step (fun k => by simp only [spec_forward.l0, hw, hw2]; rfl) (evPos (by omega) (evPos (by omega) (evPos (by omega) (evPos (by omega) ?_))))
      rw [rdN l i (by omega), rdN l (i + 1) h, hs, hg]
      refine evFix (specFloor2 (l[i] + l[i + 1]) (by omega) (by omega)) (evPos (by omega) (evPos (by omega) ?_))
      rw [meansP_two l i h, gapsP_two l i h]
      have := ih (d - 2) (by omega) (i + 2) (x3 ++ [(l[i] + l[i + 1]) / 2]) (x4 ++ [l[i] - l[i + 1]]) (by omega) (by omega) (by omega) (by simp; omega) (by simp; omega)
      simpa [mean2] using this
    · refine Ev.step (fun k => by simp only [spec_forward.l0, hw, hw2]; rfl) (evNeg (by omega) ?_)
      by_cases h2 : i = l.length
      · refine evNeg (by omega) (evPos (by omega) (evRet ?_))
        rw [List.drop_of_length_le (by omega)]
        simp [meansP, gapsP]
      · have h3' : i + 1 = l.length := by omega
        have hw3 : wrap64 ((l.length : Int) - 1) = (i : Int) := by rw [wrapIn (by omega) (by omega)]; omega
        rw [hw3, rdN l i (by omega)]
        refine evPos (by omega) (evPos (by omega) (evPos (by omega) (evPos (by omega) (evFix rfl (evPos (by simp; omega) (evRet ?_))))))
        rw [drop_cons_ l i (by omega), List.drop_of_length_le (by omega)]
        simp [meansP, gapsP]
theorem spec_forward.ev (l : List Int) (hl : PairOk l) : Ev (fun k => spec_forward.f k l) (fwdP l) := by
  have := spec_forward.ev_l0 l hl l.length 0 [] [] (by omega) (by omega) rfl (by simp) (by simp)
  unfold spec_forward.f fwdP
  simpa using this
theorem impl_forwardPairs.ev_l0 (l : List Int) (hl : PairOk l) (d : Nat) : ∀ i x3 x4, i ≤ l.length → l.length - i = d → i % 2 = 0 → x3.length ≤ i → x4.length ≤ i →
    Ev (fun k => impl_forwardPairs.l0 k l x3 x4 (i : Int)) ((x3 ++ meansP (l.drop i)) ++ (x4 ++ gapsP (l.drop i))) := by
  obtain ⟨hlen, hin⟩ := hl
  induction d using Nat.strongRecOn with
  | _ d ih =>
    intro i x3 x4 hi hd he h3 h4
    have hw : wrap64 ((i : Int) + 1) = ((i + 1 : Nat) : Int) := wrapSucc i (by omega)
    have hw2 : wrap64 ((i : Int) + 2) = ((i + 2 : Nat) : Int) := wrapIn (by omega) (by omega)
    by_cases h : i + 1 < l.length
    · have b0 := hin l[i] (List.getElem_mem _)
      have b1 := hin l[i + 1] (List.getElem_mem _)
      unfold inPair at b0 b1
      have hs : wrap64 (l[i] + l[i + 1]) = l[i] + l[i + 1] := wrapIn (by omega) (by omega)
      have hg : wrap64 (l[i] - l[i + 1]) = l[i] - l[i + 1] := wrapIn (by omega) (by omega)
      refine Ev.step (fun k => by simp only [impl_forwardPairs.l0, hw, hw2]; rfl) (evPos (by omega) (evPos (by omega) (evPos (by omega) (evPos (by omega) ?_))))
      rw [rdN l i (by omega), rdN l (i + 1) h, hs, hg]
      refine evFix (implFloor2 (l[i] + l[i + 1]) (by omega) (by omega)) (evPos (by omega) (evPos (by omega) ?_))
      rw [meansP_two l i h, gapsP_two l i h]
      have := ih (d - 2) (by omega) (i + 2) (x3 ++ [(l[i] + l[i + 1]) / 2]) (x4 ++ [l[i] - l[i + 1]]) (by omega) (by omega) (by omega) (by simp; omega) (by simp; omega)
      simpa [mean2] using this
    · refine Ev.step (fun k => by simp only [impl_forwardPairs.l0, hw, hw2]; rfl) (evNeg (by omega) ?_)
      by_cases h2 : i = l.length
      · refine evNeg (by omega) (evPos (by omega) (evRet ?_))
        rw [List.drop_of_length_le (by omega)]
        simp [meansP, gapsP]
      · have h3' : i + 1 = l.length := by omega
        have hw3 : wrap64 ((l.length : Int) - 1) = (i : Int) := by rw [wrapIn (by omega) (by omega)]; omega
        rw [hw3, rdN l i (by omega)]
        refine evPos (by omega) (evPos (by omega) (evPos (by omega) (evPos (by omega) (evFix rfl (evPos (by simp; omega) (evRet ?_))))))
        rw [drop_cons_ l i (by omega), List.drop_of_length_le (by omega)]
        simp [meansP, gapsP]
theorem impl_forwardPairs.ev (l : List Int) (hl : PairOk l) : Ev (fun k => impl_forwardPairs.f k l) (fwdP l) := by
  have := impl_forwardPairs.ev_l0 l hl l.length 0 [] [] (by omega) (by omega) rfl (by simp) (by simp)
  unfold impl_forwardPairs.f fwdP
  simpa using this
theorem spec_ForwardPairs.ev (l : List Int) (hl : l.length ≤ 9223372036854775806) : Ev (fun k => spec_ForwardPairs.f k l) (if PairOk l then fwdP l else []) := by
  unfold spec_ForwardPairs.f
  refine evBind (spec_validPairs.ev l hl) (evIf (fun h => ?_) (fun h => evRet ?_))
  · rw [decide_eq_true_eq] at h
    rw [if_pos h]
    exact evBind (spec_forward.ev l h) (evRet rfl)
  · rw [decide_eq_true_eq] at h
    rw [if_neg h]
theorem impl_ForwardPairs.ev (l : List Int) : Ev (fun k => impl_ForwardPairs.f k l) (if PairOk l then fwdP l else []) := by
  unfold impl_ForwardPairs.f
  refine evFix (impl_isPairList.val l) (evIf (fun h => ?_) (fun h => evRet ?_))
  · rw [decide_eq_true_eq] at h
    rw [if_pos h]
    exact evBind (impl_forwardPairs.ev l h) (evRet rfl)
  · rw [decide_eq_true_eq] at h
    rw [if_neg h]

end Go.Proofs.Ytpmogeekhkcfjaa.Pure
