/- FnExactMaskImage answers true for every two images and region: the program's MaskImage is the reference's, and its result is memory of its own. No condition. -/
import Derived.Test.YtbkhhlifpknbeaaPrintHimplMaskImage
import Derived.Test.YtbkhhlifpknbeaaPrintHimplimageBy
import Derived.Test.YtbkhhlifpknbeaaPrintHx0
import Derived.Test.YtbkhhlifpknbeaaPrintHx2
import Derived.Test.YtbkhhlifpknbeaaPrintLFnExactMaskImage
import Derived.Test.YtbkhhlifpknbeaaPrintR0x0
import Derived.Test.YtbkhhlifpknbeaaPrintR1x0
import Derived.Test.YtbkhhlifpknbeaaPrintR1x1
import Derived.Test.YtbkhhlifpknbeaaPrintR1x2
import Derived.Test.YtbkhhlifpknbeaaPrintR1x3
import Derived.Test.YtbkhhlifpknbeaaPrintR1x4
import Derived.Test.YtbkhhlifpknbeaaPrintR1x5
import Derived.Test.YtbkhhlifpknbeaaPrintR1x6
namespace Go.Proofs.Ytbkhhlifpknbeaa.Pure
open Go.RowKit Go.Proofs.Ytbkhhlifpknbeaa.Print Go.Proofs.YtbkhhlifpknbeaaW.PrintWords Go.Proofs.YtbkhhlifpknbeaaW.PrintLast Go.Proofs.YtbkhhlifpknbeaaW.PrintMore
set_option linter.unusedVariables false
set_option linter.unusedSimpArgs false
theorem rdN (l : List Int) (k : Nat) (h : k < l.length) : rd l (k : Int) = l[k] := by
  simp [rd, List.getD_eq_getElem?_getD, List.getElem?_eq_getElem h]
theorem drop_cons_ {α : Type} (l : List α) (k : Nat) (h : k < l.length) : l.drop k = l[k] :: l.drop (k + 1) := List.drop_eq_getElem_cons h
theorem take_snocN {α : Type} (l : List α) (k : Nat) (h : k < l.length) : l.take (k + 1) = l.take k ++ [l[k]] := by
  rw [List.take_succ_eq_append_getElem h]
/-- Two lists of one length, from a place on. -/
theorem decide_drop_eq {α : Type} [DecidableEq α] (a b : List α) (i : Nat) (h1 : i < a.length) (h2 : i < b.length) : decide (a.drop i = b.drop i) = (decide (a[i] = b[i]) && decide (a.drop (i + 1) = b.drop (i + 1))) := by
  rw [drop_cons_ a i h1, drop_cons_ b i h2]
  rw [Bool.eq_iff_iff]
  simp only [decide_eq_true_eq, Bool.and_eq_true, List.cons.injEq]

theorem laws_eqIntS.ev_l0 (a b : List Int) (hab : a.length = b.length) (hl : a.length ≤ 9223372036854775807) (d : Nat) : ∀ i, i ≤ a.length → a.length - i = d →
    Ev (fun k => laws_eqIntS.l0 k a b (i : Int)) (decide (a.drop i = b.drop i)) := by
  induction d with
  | zero =>
    intro i hi hd
    refine Ev.step (fun k => by simp only [laws_eqIntS.l0]; rfl) (evNeg (by omega) (evRet ?_))
    rw [List.drop_of_length_le (by omega), List.drop_of_length_le (by omega)]
    rfl
  | succ d ih =>
    intro i hi hd
    have hw : wrap64 ((i : Int) + 1) = ((i + 1 : Nat) : Int) := wrapSucc i (by omega)
    refine Ev.step (fun k => by simp only [laws_eqIntS.l0, hw]; rfl) (evPos (by omega) (evPos (by omega) (evPos (by omega) ?_)))
    rw [decide_drop_eq a b i (by omega) (by omega), rdN a i (by omega), rdN b i (by omega)]
    refine evIf (fun h => ?_) (fun h => evRet ?_)
    · rw [decide_eq_true h, Bool.true_and]
      exact ih (i + 1) (by omega) (by omega)
    · rw [decide_eq_false h, Bool.false_and]
theorem laws_eqIntS.ev (a b : List Int) (hl : a.length ≤ 9223372036854775807) : Ev (fun k => laws_eqIntS.f k a b) (decide (a = b)) := by
  unfold laws_eqIntS.f
  refine evIf (fun h => ?_) (fun h => evRet ?_)
  · have := laws_eqIntS.ev_l0 a b (by omega) hl a.length 0 (by omega) (by omega)
    simpa using this
  · rw [eq_comm, decide_eq_false_iff_not]
    intro hab
    exact h (by rw [hab])

theorem laws_toIntS.ev_l0 (l : List Int) (hl : l.length ≤ 9223372036854775806) (d : Nat) : ∀ i, i ≤ l.length → l.length - i = d →
    Ev (fun k => laws_toIntS.l0 k l (l.take i ++ List.replicate (l.length - i) 0) (i : Int)) l := by
  induction d with
  | zero =>
    intro i hi hd
    refine Ev.step (fun k => by simp only [laws_toIntS.l0]; rfl) (evNeg (by omega) (evRet ?_))
    rw [List.take_of_length_le (by omega), hd]
    simp
  | succ d ih =>
    intro i hi hd
    have hw : wrap64 ((i : Int) + 1) = ((i + 1 : Nat) : Int) := wrapSucc i (by omega)
    have hs : (l.take i ++ List.replicate (l.length - i) 0).set (i : Int).toNat (rd l i) = l.take (i + 1) ++ List.replicate (l.length - (i + 1)) 0 := by
      rw [Int.toNat_natCast, List.set_append_right _ _ (by simp; omega), List.length_take, show i - min i l.length = 0 by omega, show l.length - i = (l.length - (i + 1)) + 1 by omega, List.replicate_succ, List.set_cons_zero, rdN l i (by omega), take_snocN l i (by omega), List.append_assoc]
      rfl
    refine Ev.step (fun k => by simp only [laws_toIntS.l0, hw, hs]; rfl) (evPos (by omega) (evPos (by omega) (evPos (by simp; omega) ?_)))
    exact ih (i + 1) (by omega) (by omega)
theorem laws_toIntS.ev (l : List Int) (hl : l.length * 8 ≤ 140737488351232) : Ev (fun k => laws_toIntS.f k l) l := by
  have h := laws_toIntS.ev_l0 l (by omega) l.length 0 (by omega) (by omega)
  unfold laws_toIntS.f
  refine evPos (by omega) (evPos (by rw [Int.toNat_natCast]; omega) ?_)
  rw [Int.toNat_natCast]
  simpa using h

theorem laws_szImage.val (a b c : Int) (l : List Int) (m : Int) (hm0 : 0 ≤ m) (hm1 : m ≤ 1048576) (hl : l.length ≤ maxLen) : laws_szImage.f a b c l m = some (if m < l.length then -1 else m - l.length) := by
  simp only [maxLen] at hl
  unfold laws_szImage.f laws_szIntS.f
  rw [wrapIn (x := m - (l.length : Int)) (by omega) (by omega)]
  by_cases h : m < l.length
  · rw [if_pos (by omega), if_pos h]
    simp
  · rw [if_neg (by omega), if_neg h]
    simp only [Option.bind_some]
    rw [if_neg (by omega)]
theorem laws_toImage.ev (a b c : Int) (l : List Int) (hl : l.length * 8 ≤ 140737488351232) : Ev (fun k => laws_toImage.f k a b c l) (a, b, c, l) := by
  unfold laws_toImage.f
  exact evBind (laws_toIntS.ev l hl) (evRet rfl)
theorem laws_eqImage.refl (a b c : Int) (l : List Int) (hl : l.length ≤ 9223372036854775807) : Ev (fun k => laws_eqImage.f k a b c l a b c l) true := by
  have h := laws_eqIntS.ev l l hl
  rw [decide_eq_true rfl] at h
  unfold laws_eqImage.f
  exact evPos rfl (evPos rfl (evPos rfl (evBind h (evPos rfl (evRet rfl)))))
/-- What is left behind the marking. -/
def marks (m : Int) : Nat → List Int
  | 0 => []
  | n + 1 => m :: marks (m + 1) n
theorem marks_length (m : Int) (n : Nat) : (marks m n).length = n := by
  induction n generalizing m with
  | zero => rfl
  | succ n ih => simp [marks, ih]
theorem marks_snoc (m : Int) (n : Nat) : marks m (n + 1) = marks m n ++ [m + n] := by
  induction n generalizing m with
  | zero => simp [marks]
  | succ n ih =>
    rw [marks, ih (m + 1), marks]
    simp
    omega
theorem marks_get (m : Int) (n i : Nat) (h : i < n) (h' : i < (marks m n).length) : (marks m n)[i] = m + i := by
  induction n generalizing m i with
  | zero => omega
  | succ n ih =>
    cases i with
    | zero => simp [marks]
    | succ i =>
      simp only [marks, List.getElem_cons_succ]
      rw [ih (m + 1) i (by omega) (by rw [marks_length]; omega)]
      omega
theorem laws_markIntS.ev_l0 (l : List Int) (m : Int) (hm : 0 ≤ m) (hl : m + l.length ≤ 9223372036854775806) (d : Nat) : ∀ i, i ≤ l.length → l.length - i = d →
    Ev (fun k => laws_markIntS.l0 k (marks m i ++ l.drop i) (m + i) (i : Int)) (m + l.length, marks m l.length) := by
  induction d with
  | zero =>
    intro i hi hd
    have hil : i = l.length := by omega
    refine Ev.step (fun k => by simp only [laws_markIntS.l0]; rfl) (evNeg (by simp [marks_length]; omega) (evRet ?_))
    rw [hil]
    simp
  | succ d ih =>
    intro i hi hd
    have hw : wrap64 ((i : Int) + 1) = ((i + 1 : Nat) : Int) := wrapSucc i (by omega)
    have hw2 : wrap64 (m + i + 1) = m + ((i + 1 : Nat) : Int) := by rw [wrapIn (by omega) (by omega)]; omega
    have hs : (marks m i ++ l.drop i).set (i : Int).toNat (m + i) = marks m (i + 1) ++ l.drop (i + 1) := by
      rw [Int.toNat_natCast, List.set_append_right _ _ (by rw [marks_length]; omega), marks_length, Nat.sub_self, drop_cons_ l i (by omega), List.set_cons_zero, marks_snoc]
      simp
    refine Ev.step (fun k => by simp only [laws_markIntS.l0, hw, hw2, hs]; rfl) (evPos (by simp [marks_length]; omega) (evPos (by omega) ?_))
    exact ih (i + 1) (by omega) (by omega)
theorem laws_markIntS.ev (l : List Int) (m : Int) (hm : 0 ≤ m) (hl : m + l.length ≤ 9223372036854775806) : Ev (fun k => laws_markIntS.f k l m) (m + l.length, marks m l.length) := by
  have := laws_markIntS.ev_l0 l m hm hl l.length 0 (by omega) (by omega)
  unfold laws_markIntS.f
  simpa [marks] using this
theorem laws_heldIntS.ev_l0 (n : Nat) (m : Int) (hm : 0 ≤ m) (hl : m + n ≤ 9223372036854775806) (d : Nat) : ∀ i, i ≤ n → n - i = d →
    Ev (fun k => laws_heldIntS.l0 k (marks m n) (m + i) (i : Int)) (m + n) := by
  induction d with
  | zero =>
    intro i hi hd
    have hil : i = n := by omega
    refine Ev.step (fun k => by simp only [laws_heldIntS.l0]; rfl) (evNeg (by rw [marks_length]; omega) (evRet ?_))
    rw [hil]
  | succ d ih =>
    intro i hi hd
    have hw : wrap64 ((i : Int) + 1) = ((i + 1 : Nat) : Int) := wrapSucc i (by omega)
    have hw2 : wrap64 (m + i + 1) = m + ((i + 1 : Nat) : Int) := by rw [wrapIn (by omega) (by omega)]; omega
    refine Ev.step (fun k => by simp only [laws_heldIntS.l0, hw, hw2]; rfl) (evPos (by rw [marks_length]; omega) (evPos (by omega) (evPos ?_ ?_)))
    · rw [rdN _ i (by rw [marks_length]; omega), marks_get m n i (by omega)]
    · exact ih (i + 1) (by omega) (by omega)
theorem laws_heldIntS.ev (n : Nat) (m : Int) (hm : 0 ≤ m) (hl : m + n ≤ 9223372036854775806) : Ev (fun k => laws_heldIntS.f k (marks m n) m) (m + n) := by
  have := laws_heldIntS.ev_l0 n m hm hl n 0 (by omega) (by omega)
  unfold laws_heldIntS.f
  simpa using this

theorem laws_heldImage.ev (a b c : Int) (n : Nat) (m : Int) (hm : 0 ≤ m) (hl : m + n ≤ 9223372036854775806) : Ev (fun k => laws_heldImage.f k a b c (marks m n) m) (m + n) := by
  unfold laws_heldImage.f
  exact evBind (laws_heldIntS.ev n m hm hl) (evNeg (by omega) (evRet rfl))

theorem laws_markImage.ev (a b c : Int) (l : List Int) (m : Int) (hm : 0 ≤ m) (hl : m + l.length ≤ 9223372036854775806) : Ev (fun k => laws_markImage.f k a b c l m) (m + l.length, marks m l.length) := by
  unfold laws_markImage.f
  exact evBind (laws_markIntS.ev l m hm hl) (evRet rfl)

theorem spec_copyInts.val (l : List Int) (h : l.length < 17592186044416) : spec_copyInts.f l = some l := by
  unfold spec_copyInts.f
  simp [h]

theorem spec_copyImage.val (a b c : Int) (l : List Int) (h : l.length < 17592186044416) : spec_copyImage.f a b c l = some (a, b, c, l) := by
  unfold spec_copyImage.f
  rw [spec_copyInts.val l h]
  rfl

theorem inRange_val (a lo hi : Int) : spec_inRange.f a lo hi = some (decide (lo ≤ a ∧ a ≤ hi)) := by
  unfold spec_inRange.f
  split
  · rename_i h; simp [h]
  · rename_i h; simp [h]

/-- All numbers of a list lie in a range. -/
def allB (lo hi : Int) (l : List Int) : Bool := l.all fun x => decide (lo ≤ x ∧ x ≤ hi)
theorem allB_iff (lo hi : Int) (l : List Int) : allB lo hi l = true ↔ ∀ x ∈ l, lo ≤ x ∧ x ≤ hi := by
  unfold allB
  rw [List.all_eq_true]
  simp only [decide_eq_true_eq]
theorem spec_allIn.ev_l0 (l : List Int) (lo hi : Int) (hl : l.length ≤ 9223372036854775806) (d : Nat) : ∀ i, i ≤ l.length → l.length - i = d →
    Ev (fun k => spec_allIn.l0 k l lo hi (i : Int)) (allB lo hi (l.drop i)) := by
  induction d with
  | zero =>
    intro i hi' hd
    refine Ev.step (fun k => by simp only [spec_allIn.l0]; rfl) (evNeg (by omega) (evRet ?_))
    rw [List.drop_of_length_le (by omega)]
    rfl
  | succ d ih =>
    intro i hi' hd
    have hw : wrap64 ((i : Int) + 1) = ((i + 1 : Nat) : Int) := wrapSucc i (by omega)
    refine Ev.step (fun k => by simp only [spec_allIn.l0, hw]; rfl) (evPos (by omega) (evPos (by omega) ?_))
    rw [rdN l i (by omega), drop_cons_ l i (by omega)]
    have hr : spec_inRange.f l[i] lo hi = some (decide (lo ≤ l[i] ∧ l[i] ≤ hi)) := by
      unfold spec_inRange.f
      split
      · rename_i h; simp [h]
      · rename_i h; simp [h]
    have e : allB lo hi (l[i] :: l.drop (i + 1)) = (decide (lo ≤ l[i] ∧ l[i] ≤ hi) && allB lo hi (l.drop (i + 1))) := by
      unfold allB
      rw [List.all_cons]
    rw [e]
    refine evFix hr (evIf (fun h => ?_) (fun h => evRet ?_))
    · rw [h, Bool.true_and]
      exact ih (i + 1) (by omega) (by omega)
    · rw [Bool.eq_false_iff.mpr h, Bool.false_and]
theorem spec_allIn.ev (l : List Int) (lo hi : Int) (hl : l.length ≤ 9223372036854775806) : Ev (fun k => spec_allIn.f k l lo hi) (allB lo hi l) := by
  have := spec_allIn.ev_l0 l lo hi hl l.length 0 (by omega) (by omega)
  unfold spec_allIn.f
  simpa using this

theorem spec_validShape.val (a b c : Int) : spec_validShape.f a b c = some (decide ((1 ≤ a ∧ a ≤ 16) ∧ (1 ≤ b ∧ b ≤ 16) ∧ (1 ≤ c ∧ c ≤ 4))) := by
  unfold spec_validShape.f
  rw [inRange_val, inRange_val, inRange_val]
  simp only [Option.bind_some, decide_eq_true_eq]
  by_cases h1 : 1 ≤ a ∧ a ≤ 16
  · rw [if_pos h1]
    by_cases h2 : 1 ≤ b ∧ b ≤ 16
    · rw [if_pos h2]
      congr 1
      rw [Bool.eq_iff_iff]
      simp only [decide_eq_true_eq]
      exact ⟨fun h => ⟨h1, h2, h⟩, fun h => h.2.2⟩
    · rw [if_neg h2, decide_eq_false (fun h => h2 h.2.1)]
  · rw [if_neg h1, decide_eq_false (fun h => h1 h.1)]
theorem allB_bytes (l : List Int) : allB 0 255 l = decide (∀ x ∈ l, 0 ≤ x ∧ x ≤ 255) := by
  rw [Bool.eq_iff_iff, allB_iff, decide_eq_true_eq]
theorem spec_validImage.ev (a b c : Int) (l : List Int) (hl : l.length ≤ 9223372036854775806) : Ev (fun k => spec_validImage.f k a b c l) (decide (ImgOk a b c l)) := by
  unfold spec_validImage.f
  refine evFix (spec_validShape.val a b c) ?_
  by_cases h : (1 ≤ a ∧ a ≤ 16) ∧ (1 ≤ b ∧ b ≤ 16) ∧ (1 ≤ c ∧ c ≤ 4)
  · refine evPos (decide_eq_true h) ?_
    rw [shape_wrap h.1 h.2.1 h.2.2]
    by_cases h2 : (l.length : Int) = a * b * c
    · refine evPos h2 ?_
      have h3 := spec_allIn.ev l 0 255 hl
      refine evBind h3 (evRet ?_)
      rw [allB_bytes, Bool.eq_iff_iff]
      simp only [decide_eq_true_eq]
      exact ⟨fun h3 => ⟨h.1, h.2.1, h.2.2, h2, h3⟩, fun hh => hh.2.2.2.2⟩
    · exact evNeg h2 (evRet (decide_eq_false (fun hh : ImgOk a b c l => h2 hh.2.2.2.1)).symm)
  · exact evNeg (by rw [decide_eq_false h]; simp) (evRet (decide_eq_false (fun hh : ImgOk a b c l => h ⟨hh.1, hh.2.1, hh.2.2.1⟩)).symm)

theorem place_wrap (W p x y : Nat) (hW : W ≤ 16) (hp : p ≤ 4) (hx : x ≤ 16) (hy : y ≤ 16) : wrap64 (wrap64 (wrap64 ((y : Int) * (W : Int)) + (x : Int)) * (p : Int)) = (((y * W + x) * p : Nat) : Int) := by
  have h1 : y * W ≤ 16 * 16 := Nat.mul_le_mul hy hW
  have h2 : (y * W + x) * p ≤ 272 * 4 := Nat.mul_le_mul (by omega) hp
  have e1 : (y : Int) * (W : Int) = ((y * W : Nat) : Int) := by push_cast; rfl
  have e2 : ((y * W + x : Nat) : Int) * (p : Int) = (((y * W + x) * p : Nat) : Int) := by push_cast; rfl
  rw [e1, wrapNat (y * W) (by omega), show ((y * W : Nat) : Int) + (x : Int) = ((y * W + x : Nat) : Int) by omega, wrapNat (y * W + x) (by omega), e2, wrapNat _ (by omega)]
theorem spec_pixelAt.val (W H p : Nat) (l : List Int) (x y : Nat) (hl : l.length = W * H * p) (hW : W ≤ 16) (hH : H ≤ 16) (hp : p ≤ 4) (hx : x < W) (hy : y < H) : spec_pixelAt.f (W : Int) (H : Int) (p : Int) l (x : Int) (y : Int) = some (pixN W p l x y) := by
  have h := pix_lt (p := p) hx hy
  rw [← hl] at h
  have hlen := pixN_length hx hy hl
  have h2 : (y * W + x) * p ≤ 272 * 4 := Nat.mul_le_mul (by have : y * W ≤ 16 * 16 := Nat.mul_le_mul (by omega) hW; omega) hp
  unfold spec_pixelAt.f
  rw [place_wrap W p x y hW hp (by omega) (by omega)]
  have e : wrap64 ((((y * W + x) * p : Nat) : Int) + (p : Int)) = (((y * W + x) * p + p : Nat) : Int) := by rw [wrapIn (by omega) (by omega)]; omega
  rw [e, if_pos (by omega), if_pos (by omega), if_pos (by omega), Int.toNat_natCast, Int.toNat_natCast]
  have hc := spec_copyInts.val (pixN W p l x y) (by omega)
  unfold pixN at hc ⊢
  rw [hc]
  rfl
/-- A list with a pixel's numbers put in. -/
def putPix (l px : List Int) (i : Nat) : List Int := l.take i ++ px ++ l.drop (i + px.length)
theorem putPix_upto (l px : List Int) (i q : Nat) (hi : i + px.length ≤ l.length) (hq : q < px.length) : (putPix l (px.take q) i).set (i + q) px[q] = putPix l (px.take (q + 1)) i := by
  unfold putPix
  have e1 : (l.take i).length = i := by rw [List.length_take]; omega
  have e2 : (px.take q).length = q := by rw [List.length_take]; omega
  have e3 : (px.take (q + 1)).length = q + 1 := by rw [List.length_take]; omega
  rw [e2, e3, List.set_append_right _ _ (by rw [List.length_append, e1, e2]; omega), List.length_append, e1, e2, Nat.sub_self, List.drop_eq_getElem_cons (show i + q < l.length by omega), List.set_cons_zero, List.take_succ_eq_append_getElem hq]
  simp only [List.append_assoc, List.singleton_append, Nat.add_assoc]
theorem putPix_length (l px : List Int) (i : Nat) (hi : i + px.length ≤ l.length) : (putPix l px i).length = l.length := by
  unfold putPix
  simp only [List.length_append, List.length_take, List.length_drop]
  omega
theorem putPix_nil (l : List Int) (i : Nat) : putPix l [] i = l := by unfold putPix; simp
theorem spec_setPixel.ev_l0 (W H p i : Nat) (l px : List Int) (x y : Nat) (hpx : px.length = p) (hl : i + p ≤ l.length) (hi : i ≤ 4096) (hp : p ≤ 4) (hw : wrap64 (wrap64 (wrap64 ((y : Int) * (W : Int)) + (x : Int)) * (p : Int)) = (i : Int)) (d : Nat) : ∀ q, q ≤ p → p - q = d →
    Ev (fun k => spec_setPixel.l0 k (x : Int) (y : Int) px (q : Int) (W : Int) (H : Int) (p : Int) (putPix l (px.take q) i)) (putPix l px i) := by
  induction d with
  | zero =>
    intro q hq hd
    refine Ev.step (fun k => by simp only [spec_setPixel.l0]; rfl) (evNeg (by clear hw; omega) (evRet ?_))
    rw [List.take_of_length_le (by clear hw; omega)]
  | succ d ih =>
    intro q hq hd
    have hn := ih (q + 1) (by clear hw ih; omega) (by clear hw ih; omega)
    clear ih
    have hlt : q < px.length := by clear hw; omega
    have hs := putPix_upto l px i q (by clear hw; omega) hlt
    have hle : (putPix l (px.take q) i).length = l.length := putPix_length _ _ _ (by rw [List.length_take]; clear hw; omega)
    have e : wrap64 ((i : Int) + (q : Int)) = ((i + q : Nat) : Int) := by rw [wrapIn (by clear hw; omega) (by clear hw; omega)]; rfl
    refine Ev.step (g := fun k => spec_setPixel.l0 k (x : Int) (y : Int) px (q : Int) (W : Int) (H : Int) (p : Int) (putPix l (px.take q) i)) (f := fun k => spec_setPixel.l0 k (x : Int) (y : Int) px ((q + 1 : Nat) : Int) (W : Int) (H : Int) (p : Int) (putPix l (px.take (q + 1)) i)) (fun k => ?_) hn
    simp only [spec_setPixel.l0]
    rw [hw, e]
    clear hw e hn
    rw [if_pos (show (q : Int) < (p : Int) by omega), if_pos (show (0 : Int) ≤ (q : Int) by omega), if_pos (show (q : Int) < (px.length : Int) by omega), if_pos (show (0 : Int) ≤ ((i + q : Nat) : Int) by omega), if_pos (show ((i + q : Nat) : Int) < ((putPix l (px.take q) i).length : Int) by omega), Int.toNat_natCast, rdN px q hlt, hs, wrapSucc q (by omega)]
theorem spec_setPixel.ev (W H p : Nat) (l px : List Int) (x y : Nat) (hpx : px.length = p) (hl : (y * W + x) * p + p ≤ l.length) (hW : W ≤ 16) (hp : p ≤ 4) (hx : x ≤ 15) (hy : y ≤ 15) :
    Ev (fun k => spec_setPixel.f k (W : Int) (H : Int) (p : Int) l (x : Int) (y : Int) px) (putPix l px ((y * W + x) * p)) := by
  have h2 : (y * W + x) * p ≤ 272 * 4 := Nat.mul_le_mul (by have : y * W ≤ 16 * 16 := Nat.mul_le_mul (by omega) hW; omega) hp
  have h := spec_setPixel.ev_l0 W H p ((y * W + x) * p) l px x y hpx hl (by omega) hp (place_wrap W p x y hW hp (by omega) (by omega)) p 0 (by omega) (by omega)
  rw [List.take_zero, putPix_nil] at h
  unfold spec_setPixel.f
  exact h
theorem pixels_len (f : Nat → Nat → List Int) (W H p : Nat) (hf : ∀ x y, x < W → y < H → (f x y).length = p) (n : Nat) (hn : n ≤ W * H) : (pixelsUpto f W n).length = n * p := by
  induction n with
  | zero => simp [pixelsUpto]
  | succ n ih =>
    have h1 := ih (by omega)
    have hW : 0 < W := by
      rcases Nat.eq_zero_or_pos W with h | h
      · subst h; omega
      · exact h
    unfold pixelsUpto at h1 ⊢
    rw [List.range_succ, List.flatMap_append, List.length_append, h1]
    have h2 := hf (n % W) (n / W) (Nat.mod_lt _ hW) (by rw [Nat.div_lt_iff_lt_mul hW, Nat.mul_comm]; omega)
    rw [List.flatMap_cons, List.flatMap_nil, List.append_nil, h2, Nat.succ_mul]
theorem row_lt {W H x y : Nat} (hx : x < W) (hy : y < H) : W * y + x < W * H := by
  have : W * (y + 1) ≤ W * H := Nat.mul_le_mul_left _ hy
  rw [Nat.mul_succ] at this
  omega
theorem pixelsUpto_congr (f g : Nat → Nat → List Int) (W H : Nat) (h : ∀ x y, x < W → y < H → f x y = g x y) (n : Nat) (hn : n ≤ W * H) : pixelsUpto f W n = pixelsUpto g W n := by
  induction n with
  | zero => rfl
  | succ n ih =>
    have h1 := ih (by omega)
    have hW : 0 < W := by
      rcases Nat.eq_zero_or_pos W with h | h
      · subst h; omega
      · exact h
    unfold pixelsUpto at h1 ⊢
    rw [List.range_succ, List.flatMap_append, List.flatMap_append, h1, List.flatMap_cons, List.flatMap_cons, List.flatMap_nil, List.flatMap_nil, h (n % W) (n / W) (Nat.mod_lt _ hW) (by rw [Nat.div_lt_iff_lt_mul hW, Nat.mul_comm]; omega)]
/-- An image is all its pixels. -/
theorem pixels_self (W H p : Nat) (l : List Int) (hl : l.length = W * H * p) : pixelsUpto (pixN W p l) W (W * H) = l := by
  have key : ∀ n, n ≤ W * H → pixelsUpto (pixN W p l) W n = l.take (n * p) := by
    intro n
    induction n with
    | zero => intro _; simp [pixelsUpto]
    | succ n ih =>
      intro hn
      have h1 := ih (by omega)
      have h2 : (n + 1) * p ≤ W * H * p := Nat.mul_le_mul_right _ hn
      rw [Nat.succ_mul] at h2
      unfold pixelsUpto at h1 ⊢
      rw [List.range_succ, List.flatMap_append, h1, List.flatMap_cons, List.flatMap_nil, List.append_nil]
      unfold pixN
      rw [show n / W * W + n % W = n by rw [Nat.mul_comm]; exact Nat.div_add_mod n W, Nat.succ_mul]
      have h3 := List.take_append_drop (n * p) (l.take (n * p + p))
      rw [List.take_take, Nat.min_eq_left (by omega)] at h3
      exact h3
  rw [key _ (Nat.le_refl _), ← hl, List.take_length]
theorem pixels_put (f : Nat → Nat → List Int) (W H p : Nat) (hf : ∀ x y, x < W → y < H → (f x y).length = p) (px : List Int) (hpx : px.length = p) (x y : Nat) (hx : x < W) (hy : y < H) :
    putPix (pixelsUpto f W (W * H)) px ((y * W + x) * p) = pixelsUpto (fun u v => if u = x ∧ v = y then px else f u v) W (W * H) := by
  have hlt := row_lt hx hy
  obtain ⟨r, hr⟩ : ∃ r, W * H = W * y + x + 1 + r := ⟨W * H - (W * y + x + 1), by omega⟩
  have split : ∀ g : Nat → Nat → List Int, pixelsUpto g W (W * y + x + 1 + r) = pixelsUpto g W (W * y + x) ++ g x y ++ (List.range r).flatMap (fun i => g ((W * y + x + 1 + i) % W) ((W * y + x + 1 + i) / W)) := by
    intro g
    rw [← pixelsUpto_snoc g W x y hx]
    unfold pixelsUpto
    rw [List.range_add, List.flatMap_append, List.flatMap_map]
  have hlen := pixels_len f W H p hf (W * y + x) (by omega)
  have hfxy := hf x y hx hy
  rw [hr, split, split, if_pos ⟨rfl, rfl⟩]
  have e1 : pixelsUpto (fun u v => if u = x ∧ v = y then px else f u v) W (W * y + x) = pixelsUpto f W (W * y + x) := by
    unfold pixelsUpto
    rw [List.flatMap_def, List.flatMap_def]
    congr 1
    refine List.map_congr_left fun i hi => ?_
    rw [List.mem_range] at hi
    refine if_neg ?_
    rintro ⟨h1, h2⟩
    have := Nat.div_add_mod i W
    rw [h1, h2] at this
    omega
  have e2 : (List.range r).flatMap (fun i => if (W * y + x + 1 + i) % W = x ∧ (W * y + x + 1 + i) / W = y then px else f ((W * y + x + 1 + i) % W) ((W * y + x + 1 + i) / W)) = (List.range r).flatMap (fun i => f ((W * y + x + 1 + i) % W) ((W * y + x + 1 + i) / W)) := by
    rw [List.flatMap_def, List.flatMap_def]
    congr 1
    refine List.map_congr_left fun i hi => ?_
    refine if_neg ?_
    rintro ⟨h1, h2⟩
    have := Nat.div_add_mod (W * y + x + 1 + i) W
    rw [h1, h2] at this
    omega
  rw [e1, e2]
  generalize (List.range r).flatMap _ = C
  generalize pixelsUpto f W (W * y + x) = P at hlen ⊢
  generalize f x y = B at hfxy ⊢
  unfold putPix
  rw [show y * W + x = W * y + x by rw [Nat.mul_comm]]
  generalize (W * y + x) * p = k at hlen ⊢
  subst hlen
  rw [hpx, ← hfxy]
  simp only [List.append_assoc]
  rw [List.take_append_of_le_length (Nat.le_refl _), List.take_length, List.drop_append, List.drop_eq_nil_of_le (by omega), List.nil_append, show P.length + B.length - P.length = B.length by omega, List.drop_append_of_le_length (Nat.le_refl _), List.drop_length, List.nil_append]

theorem spec_onImage.val (W H : Nat) (p : Int) (l : List Int) (x y : Nat) (hW0 : 1 ≤ W) (hH0 : 1 ≤ H) (hW : W ≤ 16) (hH : H ≤ 16) : spec_onImage.f (W : Int) (H : Int) p l (x : Int) (y : Int) = some (decide (x < W ∧ y < H)) := by
  unfold spec_onImage.f
  rw [wrapIn (x := (W : Int) - 1) (by omega) (by omega), wrapIn (x := (H : Int) - 1) (by omega) (by omega), inRange_val, inRange_val]
  simp only [Option.bind_some, decide_eq_true_eq]
  by_cases h : x < W
  · rw [if_pos (by omega)]
    congr 1
    rw [Bool.eq_iff_iff]
    simp only [decide_eq_true_eq]
    omega
  · rw [if_neg (by omega), decide_eq_false (fun hh => h hh.1)]
def paintF (base new : Nat → Nat → List Int) (g : Nat → Bool) (x y : Nat) : List Int := if g (16 * y + x) = true then new x y else base x y
def paintL (base new : Nat → Nat → List Int) (W H : Nat) (g : Nat → Bool) : List Int := pixelsUpto (paintF base new g) W (W * H)
theorem paintF_len {base new : Nat → Nat → List Int} {W H p : Nat} (hb : ∀ x y, x < W → y < H → (base x y).length = p) (hn : ∀ x y, x < W → y < H → (new x y).length = p) (g : Nat → Bool) (x y : Nat) (hx : x < W) (hy : y < H) : (paintF base new g x y).length = p := by
  unfold paintF
  split
  · exact hn x y hx hy
  · exact hb x y hx hy
theorem paintL_len {base new : Nat → Nat → List Int} {W H p : Nat} (hb : ∀ x y, x < W → y < H → (base x y).length = p) (hn : ∀ x y, x < W → y < H → (new x y).length = p) (g : Nat → Bool) : (paintL base new W H g).length = W * H * p :=
  pixels_len _ W H p (paintF_len hb hn g) _ (Nat.le_refl _)
theorem paintL_congr (base new : Nat → Nat → List Int) {W H : Nat} (hW : W ≤ 16) (hH : H ≤ 16) {f g : Nat → Bool} (h : ∀ j, j < 256 → f j = g j) : paintL base new W H f = paintL base new W H g := by
  unfold paintL
  refine pixelsUpto_congr _ _ W H (fun x y hx hy => ?_) _ (Nat.le_refl _)
  unfold paintF
  rw [h (16 * y + x) (by omega)]
theorem paint_put {base new : Nat → Nat → List Int} {W H p : Nat} (hW : W ≤ 16) (hb : ∀ x y, x < W → y < H → (base x y).length = p) (hn : ∀ x y, x < W → y < H → (new x y).length = p) (g : Nat → Bool) (x Y : Nat) (hx : x < W) (hY : Y < H) :
    putPix (paintL base new W H g) (new x Y) ((Y * W + x) * p) = paintL base new W H (fun j => if j = 16 * Y + x then true else g j) := by
  unfold paintL
  rw [pixels_put (paintF base new g) W H p (paintF_len hb hn g) (new x Y) (hn x Y hx hY) x Y hx hY]
  refine pixelsUpto_congr _ _ W H (fun u v hu hv => ?_) _ (Nat.le_refl _)
  unfold paintF
  by_cases e : u = x ∧ v = Y
  · obtain ⟨rfl, rfl⟩ := e
    simp
  · have e2 : ¬ (16 * v + u = 16 * Y + x) := by omega
    simp only [if_neg e, if_neg e2]
theorem paint_out (base new : Nat → Nat → List Int) {W H : Nat} (hW : W ≤ 16) (g : Nat → Bool) (x Y : Nat) (hx : x < 16) (h : ¬ (x < W ∧ Y < H)) : paintL base new W H g = paintL base new W H (fun j => if j = 16 * Y + x then true else g j) := by
  unfold paintL
  refine pixelsUpto_congr _ _ W H (fun u v hu hv => ?_) _ (Nat.le_refl _)
  unfold paintF
  have e2 : ¬ (16 * v + u = 16 * Y + x) := fun e => h (by have : u = x ∧ v = Y := by omega
                                                          rw [← this.1, ← this.2]; exact ⟨hu, hv⟩)
  simp only [if_neg e2]
theorem paint_none (base new : Nat → Nat → List Int) (W H : Nat) : paintL base new W H (fun _ => false) = pixelsUpto base W (W * H) := by
  unfold paintL
  refine pixelsUpto_congr _ _ W H (fun u v hu hv => ?_) _ (Nat.le_refl _)
  unfold paintF
  simp

theorem rdRunM (l : List S59) (k : Nat) (h : k < l.length) : rd_T59 l (k : Int) = l[k] := by
  simp [rd_T59, List.getD_eq_getElem?_getD, List.getElem?_eq_getElem h]

theorem spec_validRuns.ev_l0 (l : List S59) (hl : l.length ≤ 9223372036854775807) (d : Nat) : ∀ i, i ≤ l.length → l.length - i = d →
    Ev (fun k => spec_validRuns.l0 k l (i : Int)) (decide (∀ j, j < l.length → i ≤ j → okAt l j)) := by
  induction d with
  | zero =>
    intro i hi hd
    refine Ev.step (fun k => by simp only [spec_validRuns.l0]; rfl) (evNeg (by omega) (evRet ?_))
    rw [eq_comm, decide_eq_true_eq]
    intro j h1 h2
    omega
  | succ d ih =>
    intro i hi hd
    have hlt : i < l.length := by omega
    have hnot : ¬ okAt l i → decide (∀ j, j < l.length → i ≤ j → okAt l j) = false := fun h => by
      rw [decide_eq_false_iff_not]
      exact fun hh => h (hh i hlt (Nat.le_refl _))
    have hyes : okAt l i → decide (∀ j, j < l.length → i ≤ j → okAt l j) = decide (∀ j, j < l.length → i + 1 ≤ j → okAt l j) := fun h => by
      refine decide_eq_decide.mpr ⟨fun hh j h1 h2 => hh j h1 (by omega), fun hh j h1 h2 => ?_⟩
      rcases Nat.eq_or_lt_of_le h2 with h3 | h3
      · subst h3
        exact h
      · exact hh j h1 h3
    have hbad : ∀ a b c, ¬ okAt l i → Ev (fun k => spec_validRuns.j1 k l (i : Int) true a b c) (decide (∀ j, j < l.length → i ≤ j → okAt l j)) := fun a b c h =>
      Ev.step (fun k => by simp only [spec_validRuns.j1]; rfl) (evPos (by trivial) (evRet (hnot h).symm))
    have hw : wrap64 ((i : Int) + 1) = ((i + 1 : Nat) : Int) := wrapSucc i (by omega)
    refine Ev.step (fun k => by simp only [spec_validRuns.l0]; rfl) ?_
    refine evPos (by omega) (evPos (by omega) (evFix (inRange_val _ _ _) (evIf (fun h1 => evFix (inRange_val _ _ _) (evIf (fun h2 => evFix (inRange_val _ _ _) ?_) (fun h2 => hbad _ _ _ fun h => ?_))) (fun h1 => hbad _ _ _ fun h => ?_))))
    · rw [decide_eq_true_eq] at h1 h2
      rw [wrapIn (x := (rd_T59 l (i : Int)).f1 + 1) (by omega) (by omega)]
      by_cases h3 : (rd_T59 l (i : Int)).f1 + 1 ≤ (rd_T59 l (i : Int)).f2 ∧ (rd_T59 l (i : Int)).f2 ≤ 16
      · rw [decide_eq_true h3]
        have hr : okRun (rd_T59 l (i : Int)) := by unfold okRun; omega
        refine Ev.step (fun k => by simp only [spec_validRuns.j1, hw]; rfl) ?_
        refine evNeg (by first | exact not_false | simp) (evIf (fun h6 => ?_) (fun h6 => ?_))
        · have hw2 : wrap64 ((i : Int) - 1) = ((i - 1 : Nat) : Int) := by unfold wrap64; omega
          rw [hw2]
          refine evPos (by omega) (evPos (by omega) (evIf (fun h7 => evRet (hnot fun h => ?_).symm) (fun h7 => evIf (fun h8 => evIf (fun h9 => evRet (hnot fun h => ?_).symm) (fun h9 => ?_)) (fun h8 => ?_))))
          · have := h.2
            unfold before at this
            omega
          · have := h.2
            unfold before at this
            omega
          · rw [hyes ⟨hr, .inr (by unfold before; omega)⟩]
            exact ih (i + 1) (by omega) (by omega)
          · rw [hyes ⟨hr, .inr (by unfold before; omega)⟩]
            exact ih (i + 1) (by omega) (by omega)
        · rw [hyes ⟨hr, .inl (by omega)⟩]
          exact ih (i + 1) (by omega) (by omega)
      · rw [decide_eq_false h3]
        refine hbad _ _ _ fun h => h3 ?_
        have := h.1
        unfold okRun at this
        omega
    · rw [decide_eq_true_eq] at h2
      have := h.1
      unfold okRun at this
      omega
    · rw [decide_eq_true_eq] at h1
      have := h.1
      unfold okRun at this
      omega
theorem spec_validRuns.ev (l : List S59) (hl : l.length ≤ 9223372036854775807) : Ev (fun k => spec_validRuns.f k l) (decide (Valid l)) := by
  have h := spec_validRuns.ev_l0 l hl l.length 0 (by omega) (by omega)
  unfold spec_validRuns.f
  have e : decide (∀ j, j < l.length → 0 ≤ j → okAt l j) = decide (Valid l) := decide_eq_decide.mpr (by rw [valid_iff]; exact ⟨fun h j hj => h j hj (Nat.zero_le _), fun h j hj _ => h j hj⟩)
  rw [e] at h
  exact h

theorem spec_MaskImage.ev_l1 (W H p : Nat) (l : List Int) (q : List Int) (lr : List S59) (hl : l.length = W * H * p) (hW0 : 1 ≤ W) (hH0 : 1 ≤ H) (hW : W ≤ 16) (hH : H ≤ 16) (hp : p ≤ 4) (hq : q.length = W * H * p) (i : Nat) (hi : i < lr.length) (r : S59) (hr : rd_T59 lr (i : Int) = r) (R : Int × Int × Int × List Int × Bool) (g : Nat → Bool)
    (hR : Ev (fun k => spec_MaskImage.l0 k lr (wrap64 ((i : Int) + 1)) W H p l W H p q W H p (paintL (pixN W p l) (pixN W p q) W H (fun j => g j || inRun r j))) R) (Y F T : Nat) (hY : r.f0 = Y) (hF : r.f1 = F) (hT : r.f2 = T) (hY16 : Y < 16) (hT16 : T ≤ 16) (d : Nat) : ∀ x, F ≤ x → x ≤ T → T - x = d →
    Ev (fun k => spec_MaskImage.l1 k lr (i : Int) (x : Int) W H p l W H p q W H p (paintL (pixN W p l) (pixN W p q) W H (fun j => g j || (decide (j / 16 = Y) && decide (F ≤ j % 16) && decide (j % 16 < x))))) R := by
  have hb : ∀ x y, x < W → y < H → (pixN W p l x y).length = p := fun x y hx hy => pixN_length hx hy hl
  have hn : ∀ x y, x < W → y < H → ((pixN W p q) x y).length = p := fun x y hx hy => pixN_length hx hy hq
  induction d with
  | zero =>
    intro x hx1 hx2 hd
    obtain rfl : x = T := by omega
    refine Ev.step (fun k => by simp only [spec_MaskImage.l1, hr, hT]; rfl) (evPos (by omega) (evPos (by omega) (evNeg (by omega) ?_)))
    rw [paintL_congr (f := fun j => g j || (decide (j / 16 = Y) && decide (F ≤ j % 16) && decide (j % 16 < x))) (g := fun j => g j || inRun r j) (pixN W p l) (pixN W p q) hW hH (fun j hj => by
      congr 1
      rw [Bool.eq_iff_iff]
      unfold inRun
      simp only [Bool.and_eq_true, decide_eq_true_eq]
      rw [hY, hF, hT]
      omega)]
    exact hR
  | succ d ih =>
    intro x hx1 hx2 hd
    have h2 := ih (x + 1) (by omega) (by omega) (by omega)
    have ho := spec_onImage.val W H (p : Int) l x Y hW0 hH0 hW hH
    have e := paintL_congr (f := fun j => if j = 16 * Y + x then true else g j || (decide (j / 16 = Y) && decide (F ≤ j % 16) && decide (j % 16 < x))) (g := fun j => g j || (decide (j / 16 = Y) && decide (F ≤ j % 16) && decide (j % 16 < x + 1))) (pixN W p l) (pixN W p q) hW hH (fun j hj => by
      by_cases e : j = 16 * Y + x
      · rw [if_pos e, decide_eq_true (show j / 16 = Y by omega), decide_eq_true (show F ≤ j % 16 by omega), decide_eq_true (show j % 16 < x + 1 by omega)]
        simp
      · rw [if_neg e]
        congr 1
        rw [Bool.eq_iff_iff]
        simp only [Bool.and_eq_true, decide_eq_true_eq]
        omega)
    rw [← e] at h2
    refine Ev.step (fun k => by simp only [spec_MaskImage.l1, hr, hY, hT, wrapSucc x (by omega)]; rfl) (evPos (by omega) (evPos (by omega) (evPos (by omega) (evFix ho (evIf (fun hin => ?_) (fun hin => ?_))))))
    · rw [decide_eq_true_eq] at hin
      have hs := spec_setPixel.ev W H p (paintL (pixN W p l) (pixN W p q) W H (fun j => g j || (decide (j / 16 = Y) && decide (F ≤ j % 16) && decide (j % 16 < x)))) ((pixN W p q) x Y) x Y (hn x Y hin.1 hin.2) (by rw [paintL_len hb hn]; exact pix_lt hin.1 hin.2) hW hp (by omega) (by omega)
      rw [paint_put hW hb hn _ x Y hin.1 hin.2] at hs
      exact evFix (spec_pixelAt.val W H p q x Y hq hW hH hp hin.1 hin.2) (evBind hs h2)
    · rw [decide_eq_true_eq] at hin
      rw [paint_out (pixN W p l) (pixN W p q) hW (fun j => g j || (decide (j / 16 = Y) && decide (F ≤ j % 16) && decide (j % 16 < x))) x Y (by omega) hin]
      exact h2
theorem spec_MaskImage.ev_l0 (W H p : Nat) (l : List Int) (q : List Int) (lr : List S59) (hl : l.length = W * H * p) (hW0 : 1 ≤ W) (hH0 : 1 ≤ H) (hW : W ≤ 16) (hH : H ≤ 16) (hp : p ≤ 4) (hq : q.length = W * H * p) (hok : RunsOk lr) (hlr : lr.length ≤ 9223372036854775806) (d : Nat) : ∀ i, i ≤ lr.length → lr.length - i = d →
    Ev (fun k => spec_MaskImage.l0 k lr (i : Int) W H p l W H p q W H p (paintL (pixN W p l) (pixN W p q) W H (gridF (lr.take i)))) ((W : Int), (H : Int), (p : Int), (paintL (pixN W p l) (pixN W p q) W H (gridF lr)), true) := by
  induction d with
  | zero =>
    intro i hi hd
    refine Ev.step (fun k => by simp only [spec_MaskImage.l0]; rfl) (evNeg (by omega) (evRet ?_))
    rw [List.take_of_length_le (by omega)]
  | succ d ih =>
    intro i hi hd
    have hlt : i < lr.length := by omega
    obtain ⟨h0, h1, h2, h3, h4⟩ := hok lr[i] (List.getElem_mem hlt)
    have hr : rd_T59 lr (i : Int) = lr[i] := rdRunM lr i hlt
    have hF : lr[i].f1 = ((lr[i].f1.toNat : Nat) : Int) := by omega
    have hnext := ih (i + 1) (by omega) (by omega)
    have e0 := paintL_congr (f := gridF (lr.take (i + 1))) (g := fun j => gridF (lr.take i) j || inRun lr[i] j) (pixN W p l) (pixN W p q) hW hH (fun j _ => by rw [take_snocN lr i hlt, gridF_snoc])
    rw [e0, ← wrapSucc i (by omega)] at hnext
    generalize lr[i] = r at *
    have h := spec_MaskImage.ev_l1 W H p l q lr hl hW0 hH0 hW hH hp hq i hlt r hr _ (gridF (lr.take i)) hnext r.f0.toNat r.f1.toNat r.f2.toNat (by omega) hF (by omega) (by omega) (by omega) _ r.f1.toNat (Nat.le_refl _) (by omega) rfl
    rw [← hF] at h
    refine Ev.step (fun k => by simp only [spec_MaskImage.l0, hr]; rfl) (evPos (by omega) (evPos (by omega) ?_))
    rw [paintL_congr (f := fun j => gridF (lr.take i) j || (decide (j / 16 = r.f0.toNat) && decide (r.f1.toNat ≤ j % 16) && decide (j % 16 < r.f1.toNat))) (g := gridF (lr.take i)) (pixN W p l) (pixN W p q) hW hH (fun j hj => by
      by_cases e1 : r.f1.toNat ≤ j % 16
      · rw [decide_eq_false (show ¬ j % 16 < r.f1.toNat by omega)]
        simp
      · rw [decide_eq_false e1]
        simp)] at h
    exact h
theorem spec_sameShape.ev (a b c : Int) (l : List Int) (a' b' c' : Int) (q : List Int) (hl : l.length ≤ 9223372036854775806) (hq : q.length ≤ 9223372036854775806) : Ev (fun k => spec_sameShape.f k a b c l a' b' c' q) (decide (ImgOk a b c l ∧ ImgOk a' b' c' q ∧ a = a' ∧ b = b' ∧ c = c')) := by
  unfold spec_sameShape.f
  refine evBind (spec_validImage.ev a b c l hl) (evIf (fun h1 => evBind (spec_validImage.ev a' b' c' q hq) (evIf (fun h2 => evIf (fun h3 => evIf (fun h4 => evRet ?_) (fun h4 => evRet ?_)) (fun h3 => evRet ?_)) (fun h2 => evRet ?_))) (fun h1 => evRet ?_))
  · rw [decide_eq_true_eq] at h1 h2
    rw [Bool.eq_iff_iff, decide_eq_true_eq, beq_iff_eq]
    exact ⟨fun h => ⟨h1, h2, h3, h4, h⟩, fun h => h.2.2.2.2⟩
  · exact (decide_eq_false (fun h => h4 h.2.2.2.1)).symm
  · exact (decide_eq_false (fun h => h3 h.2.2.1)).symm
  · rw [decide_eq_true_eq] at h2
    exact (decide_eq_false (fun h => h2 h.2.1)).symm
  · rw [decide_eq_true_eq] at h1
    exact (decide_eq_false (fun h => h1 h.1)).symm
theorem spec_MaskImage.ev (a b c : Int) (l : List Int) (a' b' c' : Int) (q : List Int) (lr : List S59) (hl : l.length ≤ 9223372036854775806) (hq : q.length ≤ 9223372036854775806) (hlr : lr.length ≤ 9223372036854775806) : Ev (fun k => spec_MaskImage.f k a b c l a' b' c' q lr) (if MaskOk a b c l a' b' c' q lr then (a, b, c, pixelsUpto (maskF a c l q (gridF lr)) a.toNat (a.toNat * b.toNat), true) else (0, 0, 0, [], false)) := by
  have hno : ¬ MaskOk a b c l a' b' c' q lr → ∀ t, t = true → Ev (fun k => spec_MaskImage.j0 k lr t a b c l a' b' c' q) (if MaskOk a b c l a' b' c' q lr then (a, b, c, pixelsUpto (maskF a c l q (gridF lr)) a.toNat (a.toNat * b.toNat), true) else (0, 0, 0, [], false)) := fun h t ht => by
    subst ht
    rw [if_neg h]
    exact Ev.step (fun k => by simp only [spec_MaskImage.j0]; rfl) (evPos (by trivial) (evRet rfl))
  unfold spec_MaskImage.f
  refine evBind (spec_sameShape.ev a b c l a' b' c' q hl hq) (evIf (fun h1 => evBind (spec_validRuns.ev lr (by omega)) ?_) (fun h1 => ?_))
  · rw [decide_eq_true_eq] at h1
    obtain ⟨h1, h2, rfl, rfl, rfl⟩ := h1
    by_cases h4 : Valid lr
    · rw [decide_eq_true h4, if_pos (show MaskOk a b c l a b c q lr from ⟨h1, h2, ⟨rfl, rfl, rfl⟩, h4⟩)]
      refine Ev.step (fun k => by simp only [spec_MaskImage.j0]; rfl) (evNeg (by simp) (evFix (spec_copyImage.val a b c l (by have := h1.len; omega)) ?_))
      have hq2 := h2.2.2.2.1
      obtain ⟨W, H, p, rfl, rfl, rfl, hll, b1, b2, b3, b4, b5, b6⟩ := h1.nats
      have hqq : q.length = W * H * p := by
        have e : ((W * H * p : Nat) : Int) = (W : Int) * (H : Int) * (p : Int) := by push_cast; rfl
        omega
      have h := spec_MaskImage.ev_l0 W H p l q lr hll b1 b2 b4 b5 b6 hqq h4.1 hlr lr.length 0 (by omega) (by omega)
      rw [paintL_congr (f := gridF (lr.take 0)) (g := fun _ => false) (pixN W p l) (pixN W p q) b4 b5 (fun j _ => by rw [List.take_zero, gridF_nil]), paint_none, pixels_self W H p l hll] at h
      simp only [Int.toNat_natCast]
      have e : pixelsUpto (maskF (W : Int) (p : Int) l q (gridF lr)) W (W * H) = paintL (pixN W p l) (pixN W p q) W H (gridF lr) := by
        unfold paintL
        refine pixelsUpto_congr _ _ W H (fun x y hx hy => ?_) _ (Nat.le_refl _)
        unfold maskF paintF
        simp only [Int.toNat_natCast]
      rw [e]
      exact h
    · rw [decide_eq_false h4]
      exact hno (fun h => h4 h.2.2.2) _ rfl
  · rw [decide_eq_true_eq] at h1
    exact hno (fun h => h1 ⟨h.1, h.2.1, h.2.2.1⟩) true rfl

theorem laws_eqRunS.refl_l0 (a : List S59) (hl : a.length ≤ 9223372036854775806) (d : Nat) : ∀ i, i ≤ a.length → a.length - i = d →
    Ev (fun k => laws_eqRunS.l0 k a a (i : Int)) true := by
  induction d with
  | zero =>
    intro i hi hd
    exact Ev.step (fun k => by simp only [laws_eqRunS.l0]; rfl) (evNeg (by omega) (evRet rfl))
  | succ d ih =>
    intro i hi hd
    have hw : wrap64 ((i : Int) + 1) = ((i + 1 : Nat) : Int) := wrapSucc i (by omega)
    have := ih (i + 1) (by omega) (by omega)
    refine Ev.step (f := fun k => laws_eqRunS.l0 k a a ((i + 1 : Nat) : Int)) (fun k => ?_) this
    simp only [laws_eqRunS.l0, hw, laws_eqRun.f]
    rw [if_pos (by omega), if_pos (by omega), if_pos (by omega)]
    simp
theorem laws_eqRunS.refl (a : List S59) (hl : a.length ≤ 9223372036854775806) : Ev (fun k => laws_eqRunS.f k a a) true := by
  unfold laws_eqRunS.f
  exact evPos rfl (laws_eqRunS.refl_l0 a hl a.length 0 (by omega) (by omega))
/-- What is left behind the marking of runs. -/
def marksR (m : Int) : Nat → List S59
  | 0 => []
  | n + 1 => ⟨m, m + 1, m + 2⟩ :: marksR (m + 3) n
theorem marksR_length (m : Int) (n : Nat) : (marksR m n).length = n := by
  induction n generalizing m with
  | zero => rfl
  | succ n ih => simp [marksR, ih]
theorem marksR_snoc (m : Int) (n : Nat) : marksR m (n + 1) = marksR m n ++ [⟨m + 3 * n, m + 3 * n + 1, m + 3 * n + 2⟩] := by
  induction n generalizing m with
  | zero => simp [marksR]
  | succ n ih =>
    rw [marksR, ih (m + 3), marksR]
    simp
    omega
theorem rdRunN (l : List S59) (k : Nat) (h : k < l.length) : rd_T59 l (k : Int) = l[k] := by
  simp [rd_T59, List.getD_eq_getElem?_getD, List.getElem?_eq_getElem h]
theorem rd_set_same (l : List S59) (k : Nat) (h : k < l.length) (x : S59) : rd_T59 (l.set k x) (k : Int) = x := by
  rw [rdRunN _ k (by simpa using h)]
  simp
theorem laws_markRunS.ev_l0 (l : List S59) (m : Int) (hm : 0 ≤ m) (hl : m + 3 * l.length ≤ 9223372036854775800) (d : Nat) : ∀ i, i ≤ l.length → l.length - i = d →
    Ev (fun k => laws_markRunS.l0 k (marksR m i ++ l.drop i) (m + 3 * i) (i : Int)) (m + 3 * l.length, marksR m l.length) := by
  induction d with
  | zero =>
    intro i hi hd
    have hil : i = l.length := by omega
    refine Ev.step (fun k => by simp only [laws_markRunS.l0]; rfl) (evNeg (by simp [marksR_length]; omega) (evRet ?_))
    rw [hil]
    simp
  | succ d ih =>
    intro i hi hd
    have hw : wrap64 ((i : Int) + 1) = ((i + 1 : Nat) : Int) := wrapSucc i (by omega)
    have hw1 : wrap64 (m + 3 * i + 1) = m + 3 * i + 1 := wrapIn (by omega) (by omega)
    have hw2 : wrap64 (m + 3 * i + 1 + 1) = m + 3 * i + 2 := by rw [wrapIn (by omega) (by omega)]; omega
    have hw3 : wrap64 (m + 3 * i + 2 + 1) = m + 3 * ((i + 1 : Nat) : Int) := by rw [wrapIn (by omega) (by omega)]; omega
    have hlen : i < (marksR m i ++ l.drop i).length := by simp [marksR_length]; omega
    have hs : (marksR m i ++ l.drop i).set i (⟨m + 3 * i, m + 3 * i + 1, m + 3 * i + 2⟩ : S59) = marksR m (i + 1) ++ l.drop (i + 1) := by
      rw [List.set_append_right _ _ (by rw [marksR_length]; omega), marksR_length, Nat.sub_self, drop_cons_ l i (by omega), List.set_cons_zero, marksR_snoc, List.append_assoc]
      rfl
    have := ih (i + 1) (by omega) (by omega)
    refine Ev.step (f := fun k => laws_markRunS.l0 k (marksR m (i + 1) ++ l.drop (i + 1)) (m + 3 * ((i + 1 : Nat) : Int)) ((i + 1 : Nat) : Int)) (fun k => ?_) this
    simp only [laws_markRunS.l0, hw, hw1, hw2, hw3]
    rw [if_pos (by omega), if_pos (by omega)]
    simp only [Option.bind_some, Int.toNat_natCast, List.set_set, rd_set_same _ i hlen, hs]
theorem laws_markRunS.ev (l : List S59) (m : Int) (hm : 0 ≤ m) (hl : m + 3 * l.length ≤ 9223372036854775800) : Ev (fun k => laws_markRunS.f k l m) (m + 3 * l.length, marksR m l.length) := by
  have := laws_markRunS.ev_l0 l m hm hl l.length 0 (by omega) (by omega)
  unfold laws_markRunS.f
  simpa [marksR] using this
def toR (r : S67) : S59 := ⟨r.f0, r.f1, r.f2⟩
theorem laws_szRunS.val (l : List S67) (m : Int) (hm0 : 0 ≤ m) (hm1 : m ≤ 1048576) (hl : l.length ≤ maxLen) : laws_szRunS.f l m = some (if m < l.length then -1 else m - l.length) := by
  simp only [maxLen] at hl
  unfold laws_szRunS.f
  rw [wrapIn (x := m - (l.length : Int)) (by omega) (by omega)]
  by_cases h : m < l.length
  · rw [if_pos (by omega), if_pos h]
  · rw [if_neg (by omega), if_neg h]
theorem rdRunL (l : List S67) (k : Nat) (h : k < l.length) : rd_T67 l (k : Int) = l[k] := by
  simp [rd_T67, List.getD_eq_getElem?_getD, List.getElem?_eq_getElem h]
theorem laws_toRunS.ev_l0 (l : List S67) (hl : l.length ≤ 9223372036854775806) (d : Nat) : ∀ i, i ≤ l.length → l.length - i = d →
    Ev (fun k => laws_toRunS.l0 k l ((l.take i).map toR ++ List.replicate (l.length - i) z59) (i : Int)) (l.map toR) := by
  induction d with
  | zero =>
    intro i hi hd
    refine Ev.step (fun k => by simp only [laws_toRunS.l0]; rfl) (evNeg (by omega) (evRet ?_))
    rw [List.take_of_length_le (by omega), hd]
    simp
  | succ d ih =>
    intro i hi hd
    have hlt : i < l.length := by omega
    have hr := rdRunL l i hlt
    have ht : laws_toRun.f l[i].f0 l[i].f1 l[i].f2 = some (l[i].f0, l[i].f1, l[i].f2) := rfl
    have hs : ((l.take i).map toR ++ List.replicate (l.length - i) z59).set (i : Int).toNat ⟨l[i].f0, l[i].f1, l[i].f2⟩ = (l.take (i + 1)).map toR ++ List.replicate (l.length - (i + 1)) z59 := by
      have e : ((l.take i).map toR).length = i := by simp; omega
      rw [Int.toNat_natCast, List.set_append_right _ _ (by omega), e, Nat.sub_self, show l.length - i = (l.length - (i + 1)) + 1 by omega, List.replicate_succ, List.set_cons_zero, List.take_succ_eq_append_getElem hlt, List.map_append, List.append_assoc]
      rfl
    refine Ev.step (fun k => by simp only [laws_toRunS.l0, hr, ht, Option.bind_some, hs, wrapSucc i (by omega)]; rfl) (evPos (by omega) (evPos (by omega) (evPos (by simp; omega) ?_)))
    exact ih (i + 1) (by omega) (by omega)
theorem laws_toRunS.ev (l : List S67) (hl : l.length ≤ 1048576) : Ev (fun k => laws_toRunS.f k l) (l.map toR) := by
  have h := laws_toRunS.ev_l0 l (by omega) l.length 0 (by omega) (by omega)
  unfold laws_toRunS.f
  refine evPos (by omega) (evPos (by omega) ?_)
  rw [Int.toNat_natCast]
  simpa using h

theorem mask_size (a b c : Int) (l : List Int) (a' b' c' : Int) (q : List Int) (lr : List S59) : (if MaskOk a b c l a' b' c' q lr then (a, b, c, pixelsUpto (maskF a c l q (gridF lr)) a.toNat (a.toNat * b.toNat), true) else (0, 0, 0, [], false)).2.2.2.1.length ≤ 16 * 16 * 4 := by
  split
  · rename_i hk
    obtain ⟨hi, hj, ⟨rfl, rfl, rfl⟩, hv⟩ := hk
    have hq2 := hj.2.2.2.1
    obtain ⟨W, H, p, rfl, rfl, rfl, hll, b1, b2, b3, b4, b5, b6⟩ := hi.nats
    have hqq : q.length = W * H * p := by
      have e : ((W * H * p : Nat) : Int) = (W : Int) * (H : Int) * (p : Int) := by push_cast; rfl
      omega
    simp only [Int.toNat_natCast]
    rw [pixels_len (maskF (W : Int) (p : Int) l q (gridF lr)) W H p (fun x y hx hy => by
      unfold maskF
      simp only [Int.toNat_natCast]
      split
      · exact pixN_length hx hy hqq
      · exact pixN_length hx hy hll) (W * H) (Nat.le_refl _)]
    exact Nat.mul_le_mul (Nat.mul_le_mul b4 b5) b6
  · simp
theorem FnExactMaskImage : laws_FnExactMaskImage.Pure := by
  intro a b c l a' b' c' q lr _ _ _ hl _ _ _ _ hq _ hlr _
  refine Ev.rounds ?_
  unfold laws_FnExactMaskImage.f
  refine evFix (laws_szImage.val a b c l 1048576 (by omega) (by omega) hl) ?_
  by_cases hlt : (1048576 : Int) < l.length
  · rw [if_pos hlt]
    exact evPos (by omega) (evRet rfl)
  rw [if_neg hlt]
  have hb : l.length ≤ 1048576 := by omega
  refine evNeg (by omega) (evFix (laws_szImage.val a' b' c' q (1048576 - l.length) (by omega) (by omega) hq) ?_)
  by_cases hlt1 : (1048576 : Int) - l.length < q.length
  · rw [if_pos hlt1]
    exact evPos (by omega) (evRet rfl)
  rw [if_neg hlt1]
  have hb1 : q.length ≤ 1048576 := by omega
  refine evNeg (by omega) (evFix (laws_szRunS.val lr (1048576 - l.length - q.length) (by omega) (by omega) hlr) ?_)
  by_cases hlt2 : (1048576 : Int) - l.length - q.length < lr.length
  · rw [if_pos hlt2]
    exact evPos (by omega) (evRet rfl)
  rw [if_neg hlt2]
  have hb2 : lr.length ≤ 1048576 := by omega
  have h1 := laws_toImage.ev a b c l (by omega)
  have h1' := laws_toImage.ev a' b' c' q (by omega)
  have h2 := laws_toRunS.ev lr hb2
  have hlm : (lr.map toR).length = lr.length := List.length_map _
  have h3 := spec_MaskImage.ev a b c l a' b' c' q (lr.map toR) (by omega) (by omega) (by omega)
  have h4 : impl_MaskImage.f a b c l a' b' c' q (lr.map toR) = some (if MaskOk a b c l a' b' c' q (lr.map toR) then (a, b, c, pixelsUpto (maskF a c l q (gridF (lr.map toR))) a.toNat (a.toNat * b.toNat), true) else (0, 0, 0, [], false)) := rfl
  have hr := mask_size a b c l a' b' c' q (lr.map toR)
  generalize (if MaskOk a b c l a' b' c' q (lr.map toR) then (a, b, c, pixelsUpto (maskF a c l q (gridF (lr.map toR))) a.toNat (a.toNat * b.toNat), true) else (0, 0, 0, [], false)) = r at *
  obtain ⟨ra, rb, rc, rl, rt⟩ := r
  simp only [] at hr
  generalize lr.map toR = lq at *
  have heq := laws_eqImage.refl ra rb rc rl (by omega)
  have heql := laws_eqImage.refl a b c l (by omega)
  have heql' := laws_eqImage.refl a' b' c' q (by omega)
  have heqr := laws_eqRunS.refl lq (by omega)
  have hm1 := laws_markImage.ev a b c l 1 (by omega) (by omega)
  have hm1' := laws_markImage.ev a' b' c' q (1 + l.length) (by omega) (by omega)
  have hm2 := laws_markRunS.ev lq (1 + l.length + q.length) (by omega) (by omega)
  have hm3 := laws_markImage.ev ra rb rc rl 1 (by omega) (by omega)
  have hh := laws_heldImage.ev ra rb rc rl.length 1 (by omega) (by omega)
  have hj : (rt != rt) = false := by simp
  repeat' first
    | exact evRet rfl
    | refine evFix (by assumption) ?_
    | refine evBind (by assumption) ?_
    | refine evPos (by first | omega | with_reducible rfl | exact True.intro) ?_
    | refine evNeg (by first | omega | (simp only [hj]; simp; done) | (simp only []; omega) | simp) ?_
    | refine Ev.step (fun k => by simp only [laws_FnExactMaskImage.j0]; rfl) ?_
    | refine Ev.step (fun k => by simp only [laws_FnExactMaskImage.j1]; rfl) ?_
    | refine Ev.step (fun k => by simp only [laws_FnExactMaskImage.j2]; rfl) ?_

end Go.Proofs.Ytbkhhlifpknbeaa.Pure
