/- FnExactMapImage answers true for every image and every list: the program's MapImage is the reference's, and its result is memory of its own. No condition. -/
import Derived.Test.YtonolnojpejgnaaPrintHimplMapImage
import Derived.Test.YtonolnojpejgnaaPrintHx0
import Derived.Test.YtonolnojpejgnaaPrintHx2
import Derived.Test.YtonolnojpejgnaaPrintLFnExactMapImage
import Derived.Test.YtonolnojpejgnaaPrintR0x0
import Derived.Test.YtonolnojpejgnaaPrintR0x1
import Derived.Test.YtonolnojpejgnaaPrintR1x0
import Derived.Test.YtonolnojpejgnaaPrintR1x10
import Derived.Test.YtonolnojpejgnaaPrintR1x3
import Derived.Test.YtonolnojpejgnaaPrintR1x4
import Derived.Test.YtonolnojpejgnaaPrintR1x5
import Derived.Test.YtonolnojpejgnaaPrintR1x7
namespace Go.Proofs.Ytonolnojpejgnaa.Pure
open Go.RowKit Go.Proofs.Ytonolnojpejgnaa.Print Go.Proofs.YtonolnojpejgnaaW.PrintWords Go.Proofs.YtonolnojpejgnaaW.PrintLast Go.Proofs.YtonolnojpejgnaaW.PrintMore
set_option linter.unusedVariables false
set_option linter.unusedSimpArgs false
/-! ### Lists of numbers: reading, and loops over them -/
theorem rdN (l : List Int) (k : Nat) (h : k < l.length) : rd l (k : Int) = l[k] := by
  simp [rd, List.getD_eq_getElem?_getD, List.getElem?_eq_getElem h]
theorem drop_cons_ {α : Type} (l : List α) (k : Nat) (h : k < l.length) : l.drop k = l[k] :: l.drop (k + 1) := List.drop_eq_getElem_cons h
theorem take_snocN {α : Type} (l : List α) (k : Nat) (h : k < l.length) : l.take (k + 1) = l.take k ++ [l[k]] := by
  rw [List.take_succ_eq_append_getElem h]
theorem eq_of_getElem {α : Type} (a b : List α) (h : a.length = b.length) (hh : ∀ i (h1 : i < a.length) (h2 : i < b.length), a[i] = b[i]) : a = b := List.ext_getElem h hh
/-- Two lists of one length, from a place on. -/
theorem decide_drop_eq {α : Type} [DecidableEq α] (a b : List α) (i : Nat) (h1 : i < a.length) (h2 : i < b.length) : decide (a.drop i = b.drop i) = (decide (a[i] = b[i]) && decide (a.drop (i + 1) = b.drop (i + 1))) := by
  rw [drop_cons_ a i h1, drop_cons_ b i h2]
  rw [Bool.eq_iff_iff]
  simp only [decide_eq_true_eq, Bool.and_eq_true, List.cons.injEq]

theorem laws_eqIntS.ev_l0 (a b : List Int) (hab : a.length = b.length) (hl : a.length ≤ 9223372036854775807) (d : Nat) : ∀ i, i ≤ a.length → a.length - i = d →
    Ev (fun k => laws_eqIntS.l0 k a b (i : Int)) (decide (a.drop i = b.drop i)) := by
  induction d with
  | zero =>
    intro i hi hd
    refine Ev.step (fun k => by simp only [laws_eqIntS.l0]; rfl) (evNeg (by omega) (evRet ?_))
    rw [List.drop_of_length_le (by omega), List.drop_of_length_le (by omega)]
    rfl
  | succ d ih =>
    intro i hi hd
    have hw : wrap64 ((i : Int) + 1) = ((i + 1 : Nat) : Int) := wrapSucc i (by omega)
    refine Ev.step (fun k => by simp only [laws_eqIntS.l0, hw]; rfl) (evPos (by omega) (evPos (by omega) (evPos (by omega) ?_)))
    rw [decide_drop_eq a b i (by omega) (by omega), rdN a i (by omega), rdN b i (by omega)]
    refine evIf (fun h => ?_) (fun h => evRet ?_)
    · rw [decide_eq_true h, Bool.true_and]
      exact ih (i + 1) (by omega) (by omega)
    · rw [decide_eq_false h, Bool.false_and]
theorem laws_eqIntS.ev (a b : List Int) (hl : a.length ≤ 9223372036854775807) : Ev (fun k => laws_eqIntS.f k a b) (decide (a = b)) := by
  unfold laws_eqIntS.f
  refine evIf (fun h => ?_) (fun h => evRet ?_)
  · have := laws_eqIntS.ev_l0 a b (by omega) hl a.length 0 (by omega) (by omega)
    simpa using this
  · rw [eq_comm, decide_eq_false_iff_not]
    intro hab
    exact h (by rw [hab])

theorem laws_toIntS.ev_l0 (l : List Int) (hl : l.length ≤ 9223372036854775806) (d : Nat) : ∀ i, i ≤ l.length → l.length - i = d →
    Ev (fun k => laws_toIntS.l0 k l (l.take i ++ List.replicate (l.length - i) 0) (i : Int)) l := by
  induction d with
  | zero =>
    intro i hi hd
    refine Ev.step (fun k => by simp only [laws_toIntS.l0]; rfl) (evNeg (by omega) (evRet ?_))
    rw [List.take_of_length_le (by omega), hd]
    simp
  | succ d ih =>
    intro i hi hd
    have hw : wrap64 ((i : Int) + 1) = ((i + 1 : Nat) : Int) := wrapSucc i (by omega)
    have hs : (l.take i ++ List.replicate (l.length - i) 0).set (i : Int).toNat (rd l i) = l.take (i + 1) ++ List.replicate (l.length - (i + 1)) 0 := by
      rw [Int.toNat_natCast, List.set_append_right _ _ (by simp; omega), List.length_take, show i - min i l.length = 0 by omega, show l.length - i = (l.length - (i + 1)) + 1 by omega, List.replicate_succ, List.set_cons_zero, rdN l i (by omega), take_snocN l i (by omega), List.append_assoc]
      rfl
    refine Ev.step (fun k => by simp only [laws_toIntS.l0, hw, hs]; rfl) (evPos (by omega) (evPos (by omega) (evPos (by simp; omega) ?_)))
    exact ih (i + 1) (by omega) (by omega)
theorem laws_toIntS.ev (l : List Int) (hl : l.length * 8 ≤ 140737488351232) : Ev (fun k => laws_toIntS.f k l) l := by
  have h := laws_toIntS.ev_l0 l (by omega) l.length 0 (by omega) (by omega)
  unfold laws_toIntS.f
  refine evPos (by omega) (evPos (by rw [Int.toNat_natCast]; omega) ?_)
  rw [Int.toNat_natCast]
  simpa using h

/-! ### The exact laws' own words about images -/
theorem laws_szImage.val (a b c : Int) (l : List Int) (m : Int) (hm0 : 0 ≤ m) (hm1 : m ≤ 1048576) (hl : l.length ≤ maxLen) : laws_szImage.f a b c l m = some (if m < l.length then -1 else m - l.length) := by
  simp only [maxLen] at hl
  unfold laws_szImage.f laws_szIntS.f
  rw [wrapIn (x := m - (l.length : Int)) (by omega) (by omega)]
  by_cases h : m < l.length
  · rw [if_pos (by omega), if_pos h]
    simp
  · rw [if_neg (by omega), if_neg h]
    simp only [Option.bind_some]
    rw [if_neg (by omega)]
theorem laws_toImage.ev (a b c : Int) (l : List Int) (hl : l.length * 8 ≤ 140737488351232) : Ev (fun k => laws_toImage.f k a b c l) (a, b, c, l) := by
  unfold laws_toImage.f
  exact evBind (laws_toIntS.ev l hl) (evRet rfl)
theorem laws_eqImage.refl (a b c : Int) (l : List Int) (hl : l.length ≤ 9223372036854775807) : Ev (fun k => laws_eqImage.f k a b c l a b c l) true := by
  have h := laws_eqIntS.ev l l hl
  rw [decide_eq_true rfl] at h
  unfold laws_eqImage.f
  exact evPos rfl (evPos rfl (evPos rfl (evBind h (evPos rfl (evRet rfl)))))
theorem laws_eqIntS.refl (l : List Int) (hl : l.length ≤ 9223372036854775807) : Ev (fun k => laws_eqIntS.f k l l) true := by
  have h := laws_eqIntS.ev l l hl
  rwa [decide_eq_true rfl] at h

/-- What is left behind the marking. -/
def marks (m : Int) : Nat → List Int
  | 0 => []
  | n + 1 => m :: marks (m + 1) n
theorem marks_length (m : Int) (n : Nat) : (marks m n).length = n := by
  induction n generalizing m with
  | zero => rfl
  | succ n ih => simp [marks, ih]
theorem marks_snoc (m : Int) (n : Nat) : marks m (n + 1) = marks m n ++ [m + n] := by
  induction n generalizing m with
  | zero => simp [marks]
  | succ n ih =>
    rw [marks, ih (m + 1), marks]
    simp
    omega
theorem marks_get (m : Int) (n i : Nat) (h : i < n) (h' : i < (marks m n).length) : (marks m n)[i] = m + i := by
  induction n generalizing m i with
  | zero => omega
  | succ n ih =>
    cases i with
    | zero => simp [marks]
    | succ i =>
      simp only [marks, List.getElem_cons_succ]
      rw [ih (m + 1) i (by omega) (by rw [marks_length]; omega)]
      omega
theorem laws_markIntS.ev_l0 (l : List Int) (m : Int) (hm : 0 ≤ m) (hl : m + l.length ≤ 9223372036854775806) (d : Nat) : ∀ i, i ≤ l.length → l.length - i = d →
    Ev (fun k => laws_markIntS.l0 k (marks m i ++ l.drop i) (m + i) (i : Int)) (m + l.length, marks m l.length) := by
  induction d with
  | zero =>
    intro i hi hd
    have hil : i = l.length := by omega
    refine Ev.step (fun k => by simp only [laws_markIntS.l0]; rfl) (evNeg (by simp [marks_length]; omega) (evRet ?_))
    rw [hil]
    simp
  | succ d ih =>
    intro i hi hd
    have hw : wrap64 ((i : Int) + 1) = ((i + 1 : Nat) : Int) := wrapSucc i (by omega)
    have hw2 : wrap64 (m + i + 1) = m + ((i + 1 : Nat) : Int) := by rw [wrapIn (by omega) (by omega)]; omega
    have hs : (marks m i ++ l.drop i).set (i : Int).toNat (m + i) = marks m (i + 1) ++ l.drop (i + 1) := by
      rw [Int.toNat_natCast, List.set_append_right _ _ (by rw [marks_length]; omega), marks_length, Nat.sub_self, drop_cons_ l i (by omega), List.set_cons_zero, marks_snoc]
      simp
    refine Ev.step (fun k => by simp only [laws_markIntS.l0, hw, hw2, hs]; rfl) (evPos (by simp [marks_length]; omega) (evPos (by omega) ?_))
    exact ih (i + 1) (by omega) (by omega)
theorem laws_markIntS.ev (l : List Int) (m : Int) (hm : 0 ≤ m) (hl : m + l.length ≤ 9223372036854775806) : Ev (fun k => laws_markIntS.f k l m) (m + l.length, marks m l.length) := by
  have := laws_markIntS.ev_l0 l m hm hl l.length 0 (by omega) (by omega)
  unfold laws_markIntS.f
  simpa [marks] using this
theorem laws_heldIntS.ev_l0 (n : Nat) (m : Int) (hm : 0 ≤ m) (hl : m + n ≤ 9223372036854775806) (d : Nat) : ∀ i, i ≤ n → n - i = d →
    Ev (fun k => laws_heldIntS.l0 k (marks m n) (m + i) (i : Int)) (m + n) := by
  induction d with
  | zero =>
    intro i hi hd
    have hil : i = n := by omega
    refine Ev.step (fun k => by simp only [laws_heldIntS.l0]; rfl) (evNeg (by rw [marks_length]; omega) (evRet ?_))
    rw [hil]
  | succ d ih =>
    intro i hi hd
    have hw : wrap64 ((i : Int) + 1) = ((i + 1 : Nat) : Int) := wrapSucc i (by omega)
    have hw2 : wrap64 (m + i + 1) = m + ((i + 1 : Nat) : Int) := by rw [wrapIn (by omega) (by omega)]; omega
    refine Ev.step (fun k => by simp only [laws_heldIntS.l0, hw, hw2]; rfl) (evPos (by rw [marks_length]; omega) (evPos (by omega) (evPos ?_ ?_)))
    · rw [rdN _ i (by rw [marks_length]; omega), marks_get m n i (by omega)]
    · exact ih (i + 1) (by omega) (by omega)
theorem laws_heldIntS.ev (n : Nat) (m : Int) (hm : 0 ≤ m) (hl : m + n ≤ 9223372036854775806) : Ev (fun k => laws_heldIntS.f k (marks m n) m) (m + n) := by
  have := laws_heldIntS.ev_l0 n m hm hl n 0 (by omega) (by omega)
  unfold laws_heldIntS.f
  simpa using this

theorem laws_heldImage.ev (a b c : Int) (n : Nat) (m : Int) (hm : 0 ≤ m) (hl : m + n ≤ 9223372036854775806) : Ev (fun k => laws_heldImage.f k a b c (marks m n) m) (m + n) := by
  unfold laws_heldImage.f
  exact evBind (laws_heldIntS.ev n m hm hl) (evNeg (by omega) (evRet rfl))

theorem spec_copyInts.val (l : List Int) (h : l.length < 17592186044416) : spec_copyInts.f l = some l := by
  unfold spec_copyInts.f
  simp [h]

theorem inRange_val (a lo hi : Int) : spec_inRange.f a lo hi = some (decide (lo ≤ a ∧ a ≤ hi)) := by
  unfold spec_inRange.f
  split
  · rename_i h; simp [h]
  · rename_i h; simp [h]

/-- All numbers of a list lie in a range. -/
def allB (lo hi : Int) (l : List Int) : Bool := l.all fun x => decide (lo ≤ x ∧ x ≤ hi)
theorem allB_iff (lo hi : Int) (l : List Int) : allB lo hi l = true ↔ ∀ x ∈ l, lo ≤ x ∧ x ≤ hi := by
  unfold allB
  rw [List.all_eq_true]
  simp only [decide_eq_true_eq]
theorem spec_allIn.ev_l0 (l : List Int) (lo hi : Int) (hl : l.length ≤ 9223372036854775806) (d : Nat) : ∀ i, i ≤ l.length → l.length - i = d →
    Ev (fun k => spec_allIn.l0 k l lo hi (i : Int)) (allB lo hi (l.drop i)) := by
  induction d with
  | zero =>
    intro i hi' hd
    refine Ev.step (fun k => by simp only [spec_allIn.l0]; rfl) (evNeg (by omega) (evRet ?_))
    rw [List.drop_of_length_le (by omega)]
    rfl
  | succ d ih =>
    intro i hi' hd
    have hw : wrap64 ((i : Int) + 1) = ((i + 1 : Nat) : Int) := wrapSucc i (by omega)
    refine Ev.step (fun k => by simp only [spec_allIn.l0, hw]; rfl) (evPos (by omega) (evPos (by omega) ?_))
    rw [rdN l i (by omega), drop_cons_ l i (by omega)]
    have hr : spec_inRange.f l[i] lo hi = some (decide (lo ≤ l[i] ∧ l[i] ≤ hi)) := by
      unfold spec_inRange.f
      split
      · rename_i h; simp [h]
      · rename_i h; simp [h]
    have e : allB lo hi (l[i] :: l.drop (i + 1)) = (decide (lo ≤ l[i] ∧ l[i] ≤ hi) && allB lo hi (l.drop (i + 1))) := by
      unfold allB
      rw [List.all_cons]
    rw [e]
    refine evFix hr (evIf (fun h => ?_) (fun h => evRet ?_))
    · rw [h, Bool.true_and]
      exact ih (i + 1) (by omega) (by omega)
    · rw [Bool.eq_false_iff.mpr h, Bool.false_and]
theorem spec_allIn.ev (l : List Int) (lo hi : Int) (hl : l.length ≤ 9223372036854775806) : Ev (fun k => spec_allIn.f k l lo hi) (allB lo hi l) := by
  have := spec_allIn.ev_l0 l lo hi hl l.length 0 (by omega) (by omega)
  unfold spec_allIn.f
  simpa using this

/-! ### Valid images, in the reference -/
theorem spec_validShape.val (a b c : Int) : spec_validShape.f a b c = some (decide ((1 ≤ a ∧ a ≤ 16) ∧ (1 ≤ b ∧ b ≤ 16) ∧ (1 ≤ c ∧ c ≤ 4))) := by
  unfold spec_validShape.f
  rw [inRange_val, inRange_val, inRange_val]
  simp only [Option.bind_some, decide_eq_true_eq]
  by_cases h1 : 1 ≤ a ∧ a ≤ 16
  · rw [if_pos h1]
    by_cases h2 : 1 ≤ b ∧ b ≤ 16
    · rw [if_pos h2]
      congr 1
      rw [Bool.eq_iff_iff]
      simp only [decide_eq_true_eq]
      exact ⟨fun h => ⟨h1, h2, h⟩, fun h => h.2.2⟩
    · rw [if_neg h2, decide_eq_false (fun h => h2 h.2.1)]
  · rw [if_neg h1, decide_eq_false (fun h => h1 h.1)]
theorem allB_bytes (l : List Int) : allB 0 255 l = decide (∀ x ∈ l, 0 ≤ x ∧ x ≤ 255) := by
  rw [Bool.eq_iff_iff, allB_iff, decide_eq_true_eq]
theorem spec_validImage.ev (a b c : Int) (l : List Int) (hl : l.length ≤ 9223372036854775806) : Ev (fun k => spec_validImage.f k a b c l) (decide (ImgOk a b c l)) := by
  unfold spec_validImage.f
  refine evFix (spec_validShape.val a b c) ?_
  by_cases h : (1 ≤ a ∧ a ≤ 16) ∧ (1 ≤ b ∧ b ≤ 16) ∧ (1 ≤ c ∧ c ≤ 4)
  · refine evPos (decide_eq_true h) ?_
    rw [shape_wrap h.1 h.2.1 h.2.2]
    by_cases h2 : (l.length : Int) = a * b * c
    · refine evPos h2 ?_
      have h3 := spec_allIn.ev l 0 255 hl
      refine evBind h3 (evRet ?_)
      rw [allB_bytes, Bool.eq_iff_iff]
      simp only [decide_eq_true_eq]
      exact ⟨fun h3 => ⟨h.1, h.2.1, h.2.2, h2, h3⟩, fun hh => hh.2.2.2.2⟩
    · exact evNeg h2 (evRet (decide_eq_false (fun hh : ImgOk a b c l => h2 hh.2.2.2.1)).symm)
  · exact evNeg (by rw [decide_eq_false h]; simp) (evRet (decide_eq_false (fun hh : ImgOk a b c l => h ⟨hh.1, hh.2.1, hh.2.2.1⟩)).symm)

theorem spec_copyImage.val (a b c : Int) (l : List Int) (h : l.length < 17592186044416) : spec_copyImage.f a b c l = some (a, b, c, l) := by
  unfold spec_copyImage.f
  rw [spec_copyInts.val l h]
  rfl
theorem spec_MapImage.ev_l0 (l1 l : List Int) (hl1 : l1.length = 256) (hb : ∀ x ∈ l, 0 ≤ x ∧ x ≤ 255) (hlen : l.length ≤ 1024) (a b c a' b' c' : Int) (d : Nat) : ∀ i, i ≤ l.length → l.length - i = d →
    Ev (fun k => spec_MapImage.l0 k l1 (i : Int) a b c l a' b' c' (mapUpto (rd l1) l i)) (a', b', c', l.map (rd l1), true) := by
  induction d with
  | zero =>
    intro i hi hd
    refine Ev.step (fun k => by simp only [spec_MapImage.l0]; rfl) (evNeg (by rw [mapUpto_length _ _ _ hi]; omega) (evRet ?_))
    rw [show i = l.length by omega, mapUpto_all]
  | succ d ih =>
    intro i hi hd
    have hlt : i < l.length := by omega
    have h1 := hb l[i] (List.getElem_mem hlt)
    have hs := mapUpto_set (rd l1) l i hlt
    refine Ev.step (fun k => by simp only [spec_MapImage.l0, rdN l i hlt, wrapSucc i (by omega), hs]; rfl) ?_
    refine evPos (by rw [mapUpto_length _ _ _ hi]; omega) (evPos (by omega) (evPos (by omega) (evPos h1.1 (evPos (by omega) ?_))))
    exact ih (i + 1) (by omega) (by omega)
theorem spec_MapImage.ev (a b c : Int) (l l1 : List Int) (hl : l.length ≤ 9223372036854775806) (hl1 : l1.length ≤ 9223372036854775806) : Ev (fun k => spec_MapImage.f k a b c l l1) (if MapOk a b c l l1 then (a, b, c, l.map (rd l1), true) else (0, 0, 0, [], false)) := by
  have hv := spec_validImage.ev a b c l hl
  unfold spec_MapImage.f
  refine evBind hv ?_
  by_cases h : ImgOk a b c l
  · refine evPos (decide_eq_true h) ?_
    by_cases h2 : l1.length = 256
    · refine evPos (by omega) (evBind (spec_allIn.ev l1 0 255 hl1) ?_)
      rw [allB_bytes]
      by_cases h3 : ∀ x ∈ l1, 0 ≤ x ∧ x ≤ 255
      · rw [decide_eq_true h3, if_pos ⟨h, h2, h3⟩]
        refine Ev.step (fun k => by simp only [spec_MapImage.j0]; rfl) (evNeg (by simp) (evFix (spec_copyImage.val a b c l (by have := h.len; omega)) ?_))
        have h4 := spec_MapImage.ev_l0 l1 l h2 h.2.2.2.2 h.len.2 a b c a b c l.length 0 (by omega) (by omega)
        rw [mapUpto_zero] at h4
        exact h4
      · rw [decide_eq_false h3, if_neg (fun hm : MapOk a b c l l1 => h3 hm.2.2)]
        exact Ev.step (fun k => by simp only [spec_MapImage.j0]; rfl) (evPos (by trivial) (evRet rfl))
    · rw [if_neg (fun hm : MapOk a b c l l1 => h2 hm.2.1)]
      exact evNeg (by omega) (Ev.step (fun k => by simp only [spec_MapImage.j0]; rfl) (evPos (by trivial) (evRet rfl)))
  · rw [if_neg (fun hm : MapOk a b c l l1 => h hm.1)]
    exact evNeg (by rw [decide_eq_false h]; simp) (Ev.step (fun k => by simp only [spec_MapImage.j0]; rfl) (evPos (by trivial) (evRet rfl)))

theorem laws_markImage.ev (a b c : Int) (l : List Int) (m : Int) (hm : 0 ≤ m) (hl : m + l.length ≤ 9223372036854775806) : Ev (fun k => laws_markImage.f k a b c l m) (m + l.length, marks m l.length) := by
  unfold laws_markImage.f
  exact evBind (laws_markIntS.ev l m hm hl) (evRet rfl)

theorem FnExactMapImage : laws_FnExactMapImage.Pure := by
  intro a b c l l1 _ _ _ hl _ hl1 _
  refine Ev.rounds ?_
  unfold laws_FnExactMapImage.f
  refine evIf (fun _ => evRet rfl) (fun hn1 => ?_)
  refine evFix (laws_szImage.val a b c l 1048576 (by omega) (by omega) hl) ?_
  by_cases hlt : (1048576 : Int) < l.length
  · rw [if_pos hlt]
    exact evPos (by omega) (evRet rfl)
  rw [if_neg hlt]
  have hb : l.length ≤ 1048576 := by omega
  have hb1 : l1.length ≤ 1048576 := by omega
  have h1 := laws_toImage.ev a b c l (by omega)
  have h2 := laws_toIntS.ev l1 (by omega)
  have h3 := spec_MapImage.ev a b c l l1 (by omega) (by omega)
  have h4 : impl_MapImage.f a b c l l1 = some (if MapOk a b c l l1 then (a, b, c, l.map (rd l1), true) else (0, 0, 0, [], false)) := rfl
  have hr : (if MapOk a b c l l1 then (a, b, c, l.map (rd l1), true) else (0, 0, 0, [], false)).2.2.2.1.length ≤ 1048576 := by
    split
    · simpa using hb
    · simp
  generalize (if MapOk a b c l l1 then (a, b, c, l.map (rd l1), true) else (0, 0, 0, [], false)) = r at *
  obtain ⟨ra, rb, rc, rl, rt⟩ := r
  simp only [] at hr
  have heq := laws_eqImage.refl ra rb rc rl (by omega)
  have heql := laws_eqImage.refl a b c l (by omega)
  have heq1 := laws_eqIntS.refl l1 (by omega)
  have hm1 := laws_markImage.ev a b c l 1 (by omega) (by omega)
  have hm2 := laws_markIntS.ev l1 (1 + l.length) (by omega) (by omega)
  have hm3 := laws_markImage.ev ra rb rc rl 1 (by omega) (by omega)
  have hh := laws_heldImage.ev ra rb rc rl.length 1 (by omega) (by omega)
  repeat' first
    | exact evRet rfl
    | refine evFix (by assumption) ?_
    | refine evBind (by assumption) ?_
    | refine evPos (by first | omega | with_reducible rfl | exact True.intro) ?_
    | refine evNeg (by first | omega | (simp only []; omega) | simp) ?_
    | refine Ev.step (fun k => by simp only [laws_FnExactMapImage.j0]; rfl) ?_
    | refine Ev.step (fun k => by simp only [laws_FnExactMapImage.j1]; rfl) ?_
    | refine Ev.step (fun k => by simp only [laws_FnExactMapImage.j2]; rfl) ?_

end Go.Proofs.Ytonolnojpejgnaa.Pure
