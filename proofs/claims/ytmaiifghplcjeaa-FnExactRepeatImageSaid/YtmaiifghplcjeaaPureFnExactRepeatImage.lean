/- FnExactRepeatImage answers true for every image and every size: the program's RepeatImage is the reference's, and its result is memory of its own. No condition. -/
import Derived.Test.YtmaiifghplcjeaaPrintHimplRepeatImage
import Derived.Test.YtmaiifghplcjeaaPrintHimplimageBy
import Derived.Test.YtmaiifghplcjeaaPrintHx0
import Derived.Test.YtmaiifghplcjeaaPrintHx2
import Derived.Test.YtmaiifghplcjeaaPrintLFnExactRepeatImage
import Derived.Test.YtmaiifghplcjeaaPrintR0x0
import Derived.Test.YtmaiifghplcjeaaPrintR1x0
import Derived.Test.YtmaiifghplcjeaaPrintR1x1
import Derived.Test.YtmaiifghplcjeaaPrintR1x2
namespace Go.Proofs.Ytmaiifghplcjeaa.Pure
open Go.RowKit Go.Proofs.Ytmaiifghplcjeaa.Print Go.Proofs.YtmaiifghplcjeaaW.PrintWords Go.Proofs.YtmaiifghplcjeaaW.PrintLast Go.Proofs.YtmaiifghplcjeaaW.PrintMore
set_option linter.unusedVariables false
set_option linter.unusedSimpArgs false
theorem rdN (l : List Int) (k : Nat) (h : k < l.length) : rd l (k : Int) = l[k] := by
  simp [rd, List.getD_eq_getElem?_getD, List.getElem?_eq_getElem h]
theorem drop_cons_ {α : Type} (l : List α) (k : Nat) (h : k < l.length) : l.drop k = l[k] :: l.drop (k + 1) := List.drop_eq_getElem_cons h
theorem take_snocN {α : Type} (l : List α) (k : Nat) (h : k < l.length) : l.take (k + 1) = l.take k ++ [l[k]] := by
  rw [List.take_succ_eq_append_getElem h]
/-- Two lists of one length, from a place on. -/
theorem decide_drop_eq {α : Type} [DecidableEq α] (a b : List α) (i : Nat) (h1 : i < a.length) (h2 : i < b.length) : decide (a.drop i = b.drop i) = (decide (a[i] = b[i]) && decide (a.drop (i + 1) = b.drop (i + 1))) := by
  rw [drop_cons_ a i h1, drop_cons_ b i h2]
  rw [Bool.eq_iff_iff]
  simp only [decide_eq_true_eq, Bool.and_eq_true, List.cons.injEq]

theorem laws_eqIntS.ev_l0 (a b : List Int) (hab : a.length = b.length) (hl : a.length ≤ 9223372036854775807) (d : Nat) : ∀ i, i ≤ a.length → a.length - i = d →
    Ev (fun k => laws_eqIntS.l0 k a b (i : Int)) (decide (a.drop i = b.drop i)) := by
  induction d with
  | zero =>
    intro i hi hd
    refine Ev.step (fun k => by simp only [laws_eqIntS.l0]; rfl) (evNeg (by omega) (evRet ?_))
    rw [List.drop_of_length_le (by omega), List.drop_of_length_le (by omega)]
    rfl
  | succ d ih =>
    intro i hi hd
    have hw : wrap64 ((i : Int) + 1) = ((i + 1 : Nat) : Int) := wrapSucc i (by omega)
    refine Ev.step (fun k => by simp only [laws_eqIntS.l0, hw]; rfl) (evPos (by omega) (evPos (by omega) (evPos (by omega) ?_)))
    rw [decide_drop_eq a b i (by omega) (by omega), rdN a i (by omega), rdN b i (by omega)]
    refine evIf (fun h => ?_) (fun h => evRet ?_)
    · rw [decide_eq_true h, Bool.true_and]
      exact ih (i + 1) (by omega) (by omega)
    · rw [decide_eq_false h, Bool.false_and]
theorem laws_eqIntS.ev (a b : List Int) (hl : a.length ≤ 9223372036854775807) : Ev (fun k => laws_eqIntS.f k a b) (decide (a = b)) := by
  unfold laws_eqIntS.f
  refine evIf (fun h => ?_) (fun h => evRet ?_)
  · have := laws_eqIntS.ev_l0 a b (by omega) hl a.length 0 (by omega) (by omega)
    simpa using this
  · rw [eq_comm, decide_eq_false_iff_not]
    intro hab
    exact h (by rw [hab])

theorem laws_toIntS.ev_l0 (l : List Int) (hl : l.length ≤ 9223372036854775806) (d : Nat) : ∀ i, i ≤ l.length → l.length - i = d →
    Ev (fun k => laws_toIntS.l0 k l (l.take i ++ List.replicate (l.length - i) 0) (i : Int)) l := by
  induction d with
  | zero =>
    intro i hi hd
    refine Ev.step (fun k => by simp only [laws_toIntS.l0]; rfl) (evNeg (by omega) (evRet ?_))
    rw [List.take_of_length_le (by omega), hd]
    simp
  | succ d ih =>
    intro i hi hd
    have hw : wrap64 ((i : Int) + 1) = ((i + 1 : Nat) : Int) := wrapSucc i (by omega)
    have hs : (l.take i ++ List.replicate (l.length - i) 0).set (i : Int).toNat (rd l i) = l.take (i + 1) ++ List.replicate (l.length - (i + 1)) 0 := by
      rw [Int.toNat_natCast, List.set_append_right _ _ (by simp; omega), List.length_take, show i - min i l.length = 0 by omega, show l.length - i = (l.length - (i + 1)) + 1 by omega, List.replicate_succ, List.set_cons_zero, rdN l i (by omega), take_snocN l i (by omega), List.append_assoc]
      rfl
    refine Ev.step (fun k => by simp only [laws_toIntS.l0, hw, hs]; rfl) (evPos (by omega) (evPos (by omega) (evPos (by simp; omega) ?_)))
    exact ih (i + 1) (by omega) (by omega)
theorem laws_toIntS.ev (l : List Int) (hl : l.length * 8 ≤ 140737488351232) : Ev (fun k => laws_toIntS.f k l) l := by
  have h := laws_toIntS.ev_l0 l (by omega) l.length 0 (by omega) (by omega)
  unfold laws_toIntS.f
  refine evPos (by omega) (evPos (by rw [Int.toNat_natCast]; omega) ?_)
  rw [Int.toNat_natCast]
  simpa using h

theorem laws_szImage.val (a b c : Int) (l : List Int) (m : Int) (hm0 : 0 ≤ m) (hm1 : m ≤ 1048576) (hl : l.length ≤ maxLen) : laws_szImage.f a b c l m = some (if m < l.length then -1 else m - l.length) := by
  simp only [maxLen] at hl
  unfold laws_szImage.f laws_szIntS.f
  rw [wrapIn (x := m - (l.length : Int)) (by omega) (by omega)]
  by_cases h : m < l.length
  · rw [if_pos (by omega), if_pos h]
    simp
  · rw [if_neg (by omega), if_neg h]
    simp only [Option.bind_some]
    rw [if_neg (by omega)]
theorem laws_toImage.ev (a b c : Int) (l : List Int) (hl : l.length * 8 ≤ 140737488351232) : Ev (fun k => laws_toImage.f k a b c l) (a, b, c, l) := by
  unfold laws_toImage.f
  exact evBind (laws_toIntS.ev l hl) (evRet rfl)
theorem laws_eqImage.refl (a b c : Int) (l : List Int) (hl : l.length ≤ 9223372036854775807) : Ev (fun k => laws_eqImage.f k a b c l a b c l) true := by
  have h := laws_eqIntS.ev l l hl
  rw [decide_eq_true rfl] at h
  unfold laws_eqImage.f
  exact evPos rfl (evPos rfl (evPos rfl (evBind h (evPos rfl (evRet rfl)))))
/-- What is left behind the marking. -/
def marks (m : Int) : Nat → List Int
  | 0 => []
  | n + 1 => m :: marks (m + 1) n
theorem marks_length (m : Int) (n : Nat) : (marks m n).length = n := by
  induction n generalizing m with
  | zero => rfl
  | succ n ih => simp [marks, ih]
theorem marks_snoc (m : Int) (n : Nat) : marks m (n + 1) = marks m n ++ [m + n] := by
  induction n generalizing m with
  | zero => simp [marks]
  | succ n ih =>
    rw [marks, ih (m + 1), marks]
    simp
    omega
theorem marks_get (m : Int) (n i : Nat) (h : i < n) (h' : i < (marks m n).length) : (marks m n)[i] = m + i := by
  induction n generalizing m i with
  | zero => omega
  | succ n ih =>
    cases i with
    | zero => simp [marks]
    | succ i =>
      simp only [marks, List.getElem_cons_succ]
      rw [ih (m + 1) i (by omega) (by rw [marks_length]; omega)]
      omega
theorem laws_markIntS.ev_l0 (l : List Int) (m : Int) (hm : 0 ≤ m) (hl : m + l.length ≤ 9223372036854775806) (d : Nat) : ∀ i, i ≤ l.length → l.length - i = d →
    Ev (fun k => laws_markIntS.l0 k (marks m i ++ l.drop i) (m + i) (i : Int)) (m + l.length, marks m l.length) := by
  induction d with
  | zero =>
    intro i hi hd
    have hil : i = l.length := by omega
    refine Ev.step (fun k => by simp only [laws_markIntS.l0]; rfl) (evNeg (by simp [marks_length]; omega) (evRet ?_))
    rw [hil]
    simp
  | succ d ih =>
    intro i hi hd
    have hw : wrap64 ((i : Int) + 1) = ((i + 1 : Nat) : Int) := wrapSucc i (by omega)
    have hw2 : wrap64 (m + i + 1) = m + ((i + 1 : Nat) : Int) := by rw [wrapIn (by omega) (by omega)]; omega
    have hs : (marks m i ++ l.drop i).set (i : Int).toNat (m + i) = marks m (i + 1) ++ l.drop (i + 1) := by
      rw [Int.toNat_natCast, List.set_append_right _ _ (by rw [marks_length]; omega), marks_length, Nat.sub_self, drop_cons_ l i (by omega), List.set_cons_zero, marks_snoc]
      simp
    refine Ev.step (fun k => by simp only [laws_markIntS.l0, hw, hw2, hs]; rfl) (evPos (by simp [marks_length]; omega) (evPos (by omega) ?_))
    exact ih (i + 1) (by omega) (by omega)
theorem laws_markIntS.ev (l : List Int) (m : Int) (hm : 0 ≤ m) (hl : m + l.length ≤ 9223372036854775806) : Ev (fun k => laws_markIntS.f k l m) (m + l.length, marks m l.length) := by
  have := laws_markIntS.ev_l0 l m hm hl l.length 0 (by omega) (by omega)
  unfold laws_markIntS.f
  simpa [marks] using this
theorem laws_heldIntS.ev_l0 (n : Nat) (m : Int) (hm : 0 ≤ m) (hl : m + n ≤ 9223372036854775806) (d : Nat) : ∀ i, i ≤ n → n - i = d →
    Ev (fun k => laws_heldIntS.l0 k (marks m n) (m + i) (i : Int)) (m + n) := by
  induction d with
  | zero =>
    intro i hi hd
    have hil : i = n := by omega
    refine Ev.step (fun k => by simp only [laws_heldIntS.l0]; rfl) (evNeg (by rw [marks_length]; omega) (evRet ?_))
    rw [hil]
  | succ d ih =>
    intro i hi hd
    have hw : wrap64 ((i : Int) + 1) = ((i + 1 : Nat) : Int) := wrapSucc i (by omega)
    have hw2 : wrap64 (m + i + 1) = m + ((i + 1 : Nat) : Int) := by rw [wrapIn (by omega) (by omega)]; omega
    refine Ev.step (fun k => by simp only [laws_heldIntS.l0, hw, hw2]; rfl) (evPos (by rw [marks_length]; omega) (evPos (by omega) (evPos ?_ ?_)))
    · rw [rdN _ i (by rw [marks_length]; omega), marks_get m n i (by omega)]
    · exact ih (i + 1) (by omega) (by omega)
theorem laws_heldIntS.ev (n : Nat) (m : Int) (hm : 0 ≤ m) (hl : m + n ≤ 9223372036854775806) : Ev (fun k => laws_heldIntS.f k (marks m n) m) (m + n) := by
  have := laws_heldIntS.ev_l0 n m hm hl n 0 (by omega) (by omega)
  unfold laws_heldIntS.f
  simpa using this

theorem laws_heldImage.ev (a b c : Int) (n : Nat) (m : Int) (hm : 0 ≤ m) (hl : m + n ≤ 9223372036854775806) : Ev (fun k => laws_heldImage.f k a b c (marks m n) m) (m + n) := by
  unfold laws_heldImage.f
  exact evBind (laws_heldIntS.ev n m hm hl) (evNeg (by omega) (evRet rfl))

theorem laws_markImage.ev (a b c : Int) (l : List Int) (m : Int) (hm : 0 ≤ m) (hl : m + l.length ≤ 9223372036854775806) : Ev (fun k => laws_markImage.f k a b c l m) (m + l.length, marks m l.length) := by
  unfold laws_markImage.f
  exact evBind (laws_markIntS.ev l m hm hl) (evRet rfl)

theorem spec_newImage.val (a b c : Int) (ha : 1 ≤ a ∧ a ≤ 16) (hb : 1 ≤ b ∧ b ≤ 16) (hc : 1 ≤ c ∧ c ≤ 4) : spec_newImage.f a b c = some (a, b, c, List.replicate (a * b * c).toNat 0) := by
  obtain ⟨h1, h2, h3, h4⟩ := shape_prod ha hb hc
  unfold spec_newImage.f
  rw [shape_wrap ha hb hc, if_pos (by omega), if_pos (by omega)]
theorem inRange_val (a lo hi : Int) : spec_inRange.f a lo hi = some (decide (lo ≤ a ∧ a ≤ hi)) := by
  unfold spec_inRange.f
  split
  · rename_i h; simp [h]
  · rename_i h; simp [h]

/-- All numbers of a list lie in a range. -/
def allB (lo hi : Int) (l : List Int) : Bool := l.all fun x => decide (lo ≤ x ∧ x ≤ hi)
theorem allB_iff (lo hi : Int) (l : List Int) : allB lo hi l = true ↔ ∀ x ∈ l, lo ≤ x ∧ x ≤ hi := by
  unfold allB
  rw [List.all_eq_true]
  simp only [decide_eq_true_eq]
theorem spec_allIn.ev_l0 (l : List Int) (lo hi : Int) (hl : l.length ≤ 9223372036854775806) (d : Nat) : ∀ i, i ≤ l.length → l.length - i = d →
    Ev (fun k => spec_allIn.l0 k l lo hi (i : Int)) (allB lo hi (l.drop i)) := by
  induction d with
  | zero =>
    intro i hi' hd
    refine Ev.step (fun k => by simp only [spec_allIn.l0]; rfl) (evNeg (by omega) (evRet ?_))
    rw [List.drop_of_length_le (by omega)]
    rfl
  | succ d ih =>
    intro i hi' hd
    have hw : wrap64 ((i : Int) + 1) = ((i + 1 : Nat) : Int) := wrapSucc i (by omega)
    refine Ev.step (fun k => by simp only [spec_allIn.l0, hw]; rfl) (evPos (by omega) (evPos (by omega) ?_))
    rw [rdN l i (by omega), drop_cons_ l i (by omega)]
    have hr : spec_inRange.f l[i] lo hi = some (decide (lo ≤ l[i] ∧ l[i] ≤ hi)) := by
      unfold spec_inRange.f
      split
      · rename_i h; simp [h]
      · rename_i h; simp [h]
    have e : allB lo hi (l[i] :: l.drop (i + 1)) = (decide (lo ≤ l[i] ∧ l[i] ≤ hi) && allB lo hi (l.drop (i + 1))) := by
      unfold allB
      rw [List.all_cons]
    rw [e]
    refine evFix hr (evIf (fun h => ?_) (fun h => evRet ?_))
    · rw [h, Bool.true_and]
      exact ih (i + 1) (by omega) (by omega)
    · rw [Bool.eq_false_iff.mpr h, Bool.false_and]
theorem spec_allIn.ev (l : List Int) (lo hi : Int) (hl : l.length ≤ 9223372036854775806) : Ev (fun k => spec_allIn.f k l lo hi) (allB lo hi l) := by
  have := spec_allIn.ev_l0 l lo hi hl l.length 0 (by omega) (by omega)
  unfold spec_allIn.f
  simpa using this

theorem spec_validShape.val (a b c : Int) : spec_validShape.f a b c = some (decide ((1 ≤ a ∧ a ≤ 16) ∧ (1 ≤ b ∧ b ≤ 16) ∧ (1 ≤ c ∧ c ≤ 4))) := by
  unfold spec_validShape.f
  rw [inRange_val, inRange_val, inRange_val]
  simp only [Option.bind_some, decide_eq_true_eq]
  by_cases h1 : 1 ≤ a ∧ a ≤ 16
  · rw [if_pos h1]
    by_cases h2 : 1 ≤ b ∧ b ≤ 16
    · rw [if_pos h2]
      congr 1
      rw [Bool.eq_iff_iff]
      simp only [decide_eq_true_eq]
      exact ⟨fun h => ⟨h1, h2, h⟩, fun h => h.2.2⟩
    · rw [if_neg h2, decide_eq_false (fun h => h2 h.2.1)]
  · rw [if_neg h1, decide_eq_false (fun h => h1 h.1)]
theorem allB_bytes (l : List Int) : allB 0 255 l = decide (∀ x ∈ l, 0 ≤ x ∧ x ≤ 255) := by
  rw [Bool.eq_iff_iff, allB_iff, decide_eq_true_eq]
theorem spec_validImage.ev (a b c : Int) (l : List Int) (hl : l.length ≤ 9223372036854775806) : Ev (fun k => spec_validImage.f k a b c l) (decide (ImgOk a b c l)) := by
  unfold spec_validImage.f
  refine evFix (spec_validShape.val a b c) ?_
  by_cases h : (1 ≤ a ∧ a ≤ 16) ∧ (1 ≤ b ∧ b ≤ 16) ∧ (1 ≤ c ∧ c ≤ 4)
  · refine evPos (decide_eq_true h) ?_
    rw [shape_wrap h.1 h.2.1 h.2.2]
    by_cases h2 : (l.length : Int) = a * b * c
    · refine evPos h2 ?_
      have h3 := spec_allIn.ev l 0 255 hl
      refine evBind h3 (evRet ?_)
      rw [allB_bytes, Bool.eq_iff_iff]
      simp only [decide_eq_true_eq]
      exact ⟨fun h3 => ⟨h.1, h.2.1, h.2.2, h2, h3⟩, fun hh => hh.2.2.2.2⟩
    · exact evNeg h2 (evRet (decide_eq_false (fun hh : ImgOk a b c l => h2 hh.2.2.2.1)).symm)
  · exact evNeg (by rw [decide_eq_false h]; simp) (evRet (decide_eq_false (fun hh : ImgOk a b c l => h ⟨hh.1, hh.2.1, hh.2.2.1⟩)).symm)

theorem spec_copyInts.val (l : List Int) (h : l.length < 17592186044416) : spec_copyInts.f l = some l := by
  unfold spec_copyInts.f
  simp [h]

theorem place_wrap (W p x y : Nat) (hW : W ≤ 16) (hp : p ≤ 4) (hx : x ≤ 16) (hy : y ≤ 16) : wrap64 (wrap64 (wrap64 ((y : Int) * (W : Int)) + (x : Int)) * (p : Int)) = (((y * W + x) * p : Nat) : Int) := by
  have h1 : y * W ≤ 16 * 16 := Nat.mul_le_mul hy hW
  have h2 : (y * W + x) * p ≤ 272 * 4 := Nat.mul_le_mul (by omega) hp
  have e1 : (y : Int) * (W : Int) = ((y * W : Nat) : Int) := by push_cast; rfl
  have e2 : ((y * W + x : Nat) : Int) * (p : Int) = (((y * W + x) * p : Nat) : Int) := by push_cast; rfl
  rw [e1, wrapNat (y * W) (by omega), show ((y * W : Nat) : Int) + (x : Int) = ((y * W + x : Nat) : Int) by omega, wrapNat (y * W + x) (by omega), e2, wrapNat _ (by omega)]
theorem spec_pixelAt.val (W H p : Nat) (l : List Int) (x y : Nat) (hl : l.length = W * H * p) (hW : W ≤ 16) (hH : H ≤ 16) (hp : p ≤ 4) (hx : x < W) (hy : y < H) : spec_pixelAt.f (W : Int) (H : Int) (p : Int) l (x : Int) (y : Int) = some (pixN W p l x y) := by
  have h := pix_lt (p := p) hx hy
  rw [← hl] at h
  have hlen := pixN_length hx hy hl
  have h2 : (y * W + x) * p ≤ 272 * 4 := Nat.mul_le_mul (by have : y * W ≤ 16 * 16 := Nat.mul_le_mul (by omega) hW; omega) hp
  unfold spec_pixelAt.f
  rw [place_wrap W p x y hW hp (by omega) (by omega)]
  have e : wrap64 ((((y * W + x) * p : Nat) : Int) + (p : Int)) = (((y * W + x) * p + p : Nat) : Int) := by rw [wrapIn (by omega) (by omega)]; omega
  rw [e, if_pos (by omega), if_pos (by omega), if_pos (by omega), Int.toNat_natCast, Int.toNat_natCast]
  have hc := spec_copyInts.val (pixN W p l x y) (by omega)
  unfold pixN at hc ⊢
  rw [hc]
  rfl
/-- A list with a pixel's numbers put in. -/
def putPix (l px : List Int) (i : Nat) : List Int := l.take i ++ px ++ l.drop (i + px.length)
theorem putPix_upto (l px : List Int) (i q : Nat) (hi : i + px.length ≤ l.length) (hq : q < px.length) : (putPix l (px.take q) i).set (i + q) px[q] = putPix l (px.take (q + 1)) i := by
  unfold putPix
  have e1 : (l.take i).length = i := by rw [List.length_take]; omega
  have e2 : (px.take q).length = q := by rw [List.length_take]; omega
  have e3 : (px.take (q + 1)).length = q + 1 := by rw [List.length_take]; omega
  rw [e2, e3, List.set_append_right _ _ (by rw [List.length_append, e1, e2]; omega), List.length_append, e1, e2, Nat.sub_self, List.drop_eq_getElem_cons (show i + q < l.length by omega), List.set_cons_zero, List.take_succ_eq_append_getElem hq]
  simp only [List.append_assoc, List.singleton_append, Nat.add_assoc]
theorem putPix_length (l px : List Int) (i : Nat) (hi : i + px.length ≤ l.length) : (putPix l px i).length = l.length := by
  unfold putPix
  simp only [List.length_append, List.length_take, List.length_drop]
  omega
theorem putPix_nil (l : List Int) (i : Nat) : putPix l [] i = l := by unfold putPix; simp
theorem spec_setPixel.ev_l0 (W H p i : Nat) (l px : List Int) (x y : Nat) (hpx : px.length = p) (hl : i + p ≤ l.length) (hi : i ≤ 4096) (hp : p ≤ 4) (hw : wrap64 (wrap64 (wrap64 ((y : Int) * (W : Int)) + (x : Int)) * (p : Int)) = (i : Int)) (d : Nat) : ∀ q, q ≤ p → p - q = d →
    Ev (fun k => spec_setPixel.l0 k (x : Int) (y : Int) px (q : Int) (W : Int) (H : Int) (p : Int) (putPix l (px.take q) i)) (putPix l px i) := by
  induction d with
  | zero =>
    intro q hq hd
    refine Ev.step (fun k => by simp only [spec_setPixel.l0]; rfl) (evNeg (by clear hw; omega) (evRet ?_))
    rw [List.take_of_length_le (by clear hw; omega)]
  | succ d ih =>
    intro q hq hd
    have hn := ih (q + 1) (by clear hw ih; omega) (by clear hw ih; omega)
    clear ih
    have hlt : q < px.length := by clear hw; omega
    have hs := putPix_upto l px i q (by clear hw; omega) hlt
    have hle : (putPix l (px.take q) i).length = l.length := putPix_length _ _ _ (by rw [List.length_take]; clear hw; omega)
    have e : wrap64 ((i : Int) + (q : Int)) = ((i + q : Nat) : Int) := by rw [wrapIn (by clear hw; omega) (by clear hw; omega)]; rfl
    refine Ev.step (g := fun k => spec_setPixel.l0 k (x : Int) (y : Int) px (q : Int) (W : Int) (H : Int) (p : Int) (putPix l (px.take q) i)) (f := fun k => spec_setPixel.l0 k (x : Int) (y : Int) px ((q + 1 : Nat) : Int) (W : Int) (H : Int) (p : Int) (putPix l (px.take (q + 1)) i)) (fun k => ?_) hn
    simp only [spec_setPixel.l0]
    rw [hw, e]
    clear hw e hn
    rw [if_pos (show (q : Int) < (p : Int) by omega), if_pos (show (0 : Int) ≤ (q : Int) by omega), if_pos (show (q : Int) < (px.length : Int) by omega), if_pos (show (0 : Int) ≤ ((i + q : Nat) : Int) by omega), if_pos (show ((i + q : Nat) : Int) < ((putPix l (px.take q) i).length : Int) by omega), Int.toNat_natCast, rdN px q hlt, hs, wrapSucc q (by omega)]
theorem spec_setPixel.ev (W H p : Nat) (l px : List Int) (x y : Nat) (hpx : px.length = p) (hl : (y * W + x) * p + p ≤ l.length) (hW : W ≤ 16) (hp : p ≤ 4) (hx : x ≤ 15) (hy : y ≤ 15) :
    Ev (fun k => spec_setPixel.f k (W : Int) (H : Int) (p : Int) l (x : Int) (y : Int) px) (putPix l px ((y * W + x) * p)) := by
  have h2 : (y * W + x) * p ≤ 272 * 4 := Nat.mul_le_mul (by have : y * W ≤ 16 * 16 := Nat.mul_le_mul (by omega) hW; omega) hp
  have h := spec_setPixel.ev_l0 W H p ((y * W + x) * p) l px x y hpx hl (by omega) hp (place_wrap W p x y hW hp (by omega) (by omega)) p 0 (by omega) (by omega)
  rw [List.take_zero, putPix_nil] at h
  unfold spec_setPixel.f
  exact h
/-- An image that is being filled, pixel by pixel. -/
def fillTo (f : Nat → Nat → List Int) (W p N n : Nat) : List Int := pixelsUpto f W n ++ List.replicate ((N - n) * p) 0
theorem pixels_len (f : Nat → Nat → List Int) (W H p : Nat) (hf : ∀ x y, x < W → y < H → (f x y).length = p) (n : Nat) (hn : n ≤ W * H) : (pixelsUpto f W n).length = n * p := by
  induction n with
  | zero => simp [pixelsUpto]
  | succ n ih =>
    have h1 := ih (by omega)
    have hW : 0 < W := by
      rcases Nat.eq_zero_or_pos W with h | h
      · subst h; omega
      · exact h
    unfold pixelsUpto at h1 ⊢
    rw [List.range_succ, List.flatMap_append, List.length_append, h1]
    have h2 := hf (n % W) (n / W) (Nat.mod_lt _ hW) (by rw [Nat.div_lt_iff_lt_mul hW, Nat.mul_comm]; omega)
    rw [List.flatMap_cons, List.flatMap_nil, List.append_nil, h2, Nat.succ_mul]
theorem fillTo_zero (f : Nat → Nat → List Int) (W p N : Nat) : fillTo f W p N 0 = List.replicate (N * p) 0 := by simp [fillTo, pixelsUpto]
theorem fillTo_all (f : Nat → Nat → List Int) (W p N : Nat) : fillTo f W p N N = pixelsUpto f W N := by simp [fillTo]
theorem fillTo_len (f : Nat → Nat → List Int) (W H p : Nat) (hf : ∀ x y, x < W → y < H → (f x y).length = p) (n : Nat) (hn : n ≤ W * H) : (fillTo f W p (W * H) n).length = W * H * p := by
  unfold fillTo
  rw [List.length_append, pixels_len f W H p hf n hn, List.length_replicate, ← Nat.add_mul]
  congr 1
  omega
theorem row_lt {W H x y : Nat} (hx : x < W) (hy : y < H) : W * y + x < W * H := by
  have : W * (y + 1) ≤ W * H := Nat.mul_le_mul_left _ hy
  rw [Nat.mul_succ] at this
  omega
theorem fillTo_put (f : Nat → Nat → List Int) (W H p : Nat) (hf : ∀ x y, x < W → y < H → (f x y).length = p) (x y : Nat) (hx : x < W) (hy : y < H) :
    putPix (fillTo f W p (W * H) (W * y + x)) (f x y) ((y * W + x) * p) = fillTo f W p (W * H) (W * y + x + 1) := by
  have hlt := row_lt hx hy
  have hlen := pixels_len f W H p hf (W * y + x) (by omega)
  unfold putPix fillTo
  rw [Nat.mul_comm y W, hf x y hx hy, List.take_append_of_le_length (by omega), List.take_of_length_le (by omega), List.drop_append, hlen, List.drop_eq_nil_of_le (by omega), pixelsUpto_snoc f W x y hx, List.nil_append]
  congr 1
  rw [show (W * y + x) * p + p - (W * y + x) * p = p by omega, List.drop_replicate]
  congr 1
  rw [show W * H - (W * y + x) = (W * H - (W * y + x + 1)) + 1 by omega, Nat.succ_mul]
  omega

theorem repeat_len {W H p : Nat} {l : List Int} (hl : l.length = W * H * p) (hW0 : 1 ≤ W) (hH0 : 1 ≤ H) (x y : Nat) : (pixN W p l (x % W) (y % H)).length = p := pixN_length (Nat.mod_lt _ (by omega)) (Nat.mod_lt _ (by omega)) hl
theorem spec_RepeatImage.ev_l1 (W H p m n : Nat) (l : List Int) (hl : l.length = W * H * p) (hW0 : 1 ≤ W) (hH0 : 1 ≤ H) (hW : W ≤ 16) (hH : H ≤ 16) (hp : p ≤ 4) (hm : m ≤ 16) (hn : n ≤ 16) (y : Nat) (hy : y < n) (R : Int × Int × Int × List Int)
    (hR : Ev (fun k => spec_RepeatImage.l0 k (m : Int) (n : Int) (wrap64 ((y : Int) + 1)) W H p l m n p (fillTo (fun x y => pixN W p l (x % W) (y % H)) m p (m * n) (m * (y + 1)))) R) (d : Nat) : ∀ x, x ≤ m → m - x = d →
    Ev (fun k => spec_RepeatImage.l1 k (m : Int) (n : Int) (y : Int) (x : Int) W H p l m n p (fillTo (fun x y => pixN W p l (x % W) (y % H)) m p (m * n) (m * y + x))) R := by
  induction d with
  | zero =>
    intro x hx hd
    refine Ev.step (fun k => by simp only [spec_RepeatImage.l1]; rfl) (evNeg (by omega) ?_)
    rw [show m * y + x = m * (y + 1) by rw [Nat.mul_succ]; omega]
    exact hR
  | succ d ih =>
    intro x hx hd
    have hlt : x < m := by omega
    have t1 : Int.tmod (x : Int) (W : Int) = ((x % W : Nat) : Int) := rfl
    have t2 : Int.tmod (y : Int) (H : Int) = ((y % H : Nat) : Int) := rfl
    have h1 := spec_pixelAt.val W H p l (x % W) (y % H) hl hW hH hp (Nat.mod_lt _ (by omega)) (Nat.mod_lt _ (by omega))
    have hf : ∀ x y, x < m → y < n → (pixN W p l (x % W) (y % H)).length = p := fun x y _ _ => repeat_len hl hW0 hH0 x y
    have hr := row_lt hlt hy
    have hle := fillTo_len (fun x y => pixN W p l (x % W) (y % H)) m n p hf (m * y + x) (by omega)
    have h2 := spec_setPixel.ev m n p (fillTo (fun x y => pixN W p l (x % W) (y % H)) m p (m * n) (m * y + x)) (pixN W p l (x % W) (y % H)) x y (hf x y hlt hy) (by rw [hle]; exact pix_lt hlt hy) hm hp (by omega) (by omega)
    rw [fillTo_put (fun x y => pixN W p l (x % W) (y % H)) m n p hf x y hlt hy] at h2
    refine Ev.step (fun k => by simp only [spec_RepeatImage.l1, t1, t2, wrapSucc x (by omega)]; rfl) (evPos (by omega) (evNeg (by omega) (evNeg (by omega) (evFix h1 (evBind h2 ?_)))))
    exact ih (x + 1) (by omega) (by omega)
theorem spec_RepeatImage.ev_l0 (W H p m n : Nat) (l : List Int) (hl : l.length = W * H * p) (hW0 : 1 ≤ W) (hH0 : 1 ≤ H) (hW : W ≤ 16) (hH : H ≤ 16) (hp : p ≤ 4) (hm : m ≤ 16) (hn : n ≤ 16) (d : Nat) : ∀ y, y ≤ n → n - y = d →
    Ev (fun k => spec_RepeatImage.l0 k (m : Int) (n : Int) (y : Int) W H p l m n p (fillTo (fun x y => pixN W p l (x % W) (y % H)) m p (m * n) (m * y))) ((m : Int), (n : Int), (p : Int), pixelsUpto (fun x y => pixN W p l (x % W) (y % H)) m (m * n)) := by
  induction d with
  | zero =>
    intro y hy hd
    refine Ev.step (fun k => by simp only [spec_RepeatImage.l0]; rfl) (evNeg (by omega) (evRet ?_))
    rw [show y = n by omega, fillTo_all]
  | succ d ih =>
    intro y hy hd
    have h := ih (y + 1) (by omega) (by omega)
    rw [← wrapSucc y (by omega)] at h
    refine Ev.step (fun k => by simp only [spec_RepeatImage.l0]; rfl) (evPos (by omega) ?_)
    exact spec_RepeatImage.ev_l1 W H p m n l hl hW0 hH0 hW hH hp hm hn y (by omega) _ h m 0 (by omega) (by omega)
theorem RepeatOk.nats {a b c : Int} {l : List Int} {u v : Int} (h : RepeatOk a b c l u v) : ∃ m n : Nat, u = m ∧ v = n ∧ 1 ≤ m ∧ 1 ≤ n ∧ m ≤ 16 ∧ n ≤ 16 := by
  obtain ⟨_, h1, h2⟩ := h
  exact ⟨u.toNat, v.toNat, by omega, by omega, by omega, by omega, by omega, by omega⟩
theorem spec_RepeatImage.ev (a b c : Int) (l : List Int) (u v : Int) (hl : l.length ≤ 9223372036854775806) : Ev (fun k => spec_RepeatImage.f k a b c l u v) (if RepeatOk a b c l u v then (u, v, c, pixelsUpto (repeatF a b c l) u.toNat (u.toNat * v.toNat)) else (0, 0, 0, [])) := by
  unfold spec_RepeatImage.f
  refine evBind (spec_validImage.ev a b c l hl) ?_
  by_cases h : ImgOk a b c l
  · refine evPos (decide_eq_true h) (evFix (spec_validShape.val u v c) ?_)
    by_cases h2 : (1 ≤ u ∧ u ≤ 16) ∧ (1 ≤ v ∧ v ≤ 16)
    · have ok : RepeatOk a b c l u v := ⟨h, h2⟩
      rw [if_pos ok, decide_eq_true (show (1 ≤ u ∧ u ≤ 16) ∧ (1 ≤ v ∧ v ≤ 16) ∧ (1 ≤ c ∧ c ≤ 4) from ⟨h2.1, h2.2, h.2.2.1⟩)]
      have hn := spec_newImage.val u v c h2.1 h2.2 h.2.2.1
      refine Ev.step (fun k => by simp only [spec_RepeatImage.j0]; rfl) (evNeg (by simp) (evFix hn ?_))
      obtain ⟨W, H, p, rfl, rfl, rfl, hlen, b1, b2, b3, b4, b5, b6⟩ := h.nats
      obtain ⟨m, n, rfl, rfl, c1, c2, c3, c4⟩ := RepeatOk.nats ok
      have h4 := spec_RepeatImage.ev_l0 W H p m n l hlen b1 b2 b4 b5 b6 c3 c4 n 0 (by omega) (by omega)
      rw [Nat.mul_zero, fillTo_zero] at h4
      have e : ((m : Int) * (n : Int) * (p : Int)).toNat = m * n * p := by
        rw [show (m : Int) * (n : Int) * (p : Int) = ((m * n * p : Nat) : Int) by push_cast; rfl, Int.toNat_natCast]
      simp only [e, repeatF, Int.toNat_natCast]
      exact h4
    · rw [if_neg (fun ok : RepeatOk a b c l u v => h2 ok.2), decide_eq_false (fun hh => h2 ⟨hh.1, hh.2.1⟩)]
      exact Ev.step (fun k => by simp only [spec_RepeatImage.j0]; rfl) (evPos (by trivial) (evRet rfl))
  · rw [if_neg (fun ok : RepeatOk a b c l u v => h ok.1)]
    exact evNeg (by rw [decide_eq_false h]; simp) (Ev.step (fun k => by simp only [spec_RepeatImage.j0]; rfl) (evPos (by trivial) (evRet rfl)))

theorem FnExactRepeatImage : laws_FnExactRepeatImage.Pure := by
  intro a b c l u v _ _ _ hl _ _ _
  refine Ev.rounds ?_
  unfold laws_FnExactRepeatImage.f
  refine evFix (laws_szImage.val a b c l 1048576 (by omega) (by omega) hl) ?_
  by_cases hlt : (1048576 : Int) < l.length
  · rw [if_pos hlt]
    exact evPos (by omega) (evRet rfl)
  rw [if_neg hlt]
  have hb : l.length ≤ 1048576 := by omega
  have h1 := laws_toImage.ev a b c l (by omega)
  have h3 := spec_RepeatImage.ev a b c l u v (by omega)
  have h4 : impl_RepeatImage.f a b c l u v = some (if RepeatOk a b c l u v then (u, v, c, pixelsUpto (repeatF a b c l) u.toNat (u.toNat * v.toNat)) else (0, 0, 0, [])) := rfl
  have hr : (if RepeatOk a b c l u v then (u, v, c, pixelsUpto (repeatF a b c l) u.toNat (u.toNat * v.toNat)) else (0, 0, 0, [])).2.2.2.length ≤ 1048576 := by
    split
    · rename_i ok
      obtain ⟨W, H, p, rfl, rfl, rfl, hlen, b1, b2, b3, b4, b5, b6⟩ := ok.1.nats
      obtain ⟨m, n, rfl, rfl, c1, c2, c3, c4⟩ := RepeatOk.nats ok
      simp only [Int.toNat_natCast]
      have h5 := pixelsUpto_len (repeatF (W : Int) (H : Int) (p : Int) l) m n (fun x y _ _ => by unfold repeatF; simp only [Int.toNat_natCast]; rw [repeat_len hlen b1 b2]; omega) (m * n) (by omega)
      have h6 : m * n ≤ 16 * 16 := Nat.mul_le_mul c3 c4
      omega
    · simp
  generalize (if RepeatOk a b c l u v then (u, v, c, pixelsUpto (repeatF a b c l) u.toNat (u.toNat * v.toNat)) else (0, 0, 0, [])) = r at *
  obtain ⟨ra, rb, rc, rl⟩ := r
  simp only [] at hr
  have heq := laws_eqImage.refl ra rb rc rl (by omega)
  have heql := laws_eqImage.refl a b c l (by omega)
  have hm1 := laws_markImage.ev a b c l 1 (by omega) (by omega)
  have hm3 := laws_markImage.ev ra rb rc rl 1 (by omega) (by omega)
  have hh := laws_heldImage.ev ra rb rc rl.length 1 (by omega) (by omega)
  repeat' first
    | exact evRet rfl
    | refine evFix (by assumption) ?_
    | refine evBind (by assumption) ?_
    | refine evPos (by first | omega | with_reducible rfl | exact True.intro) ?_
    | refine evNeg (by first | omega | (simp only []; omega) | simp) ?_
    | refine Ev.step (fun k => by simp only [laws_FnExactRepeatImage.j0]; rfl) ?_

end Go.Proofs.Ytmaiifghplcjeaa.Pure
