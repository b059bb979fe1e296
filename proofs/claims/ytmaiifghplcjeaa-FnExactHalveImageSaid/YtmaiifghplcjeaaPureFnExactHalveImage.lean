/- FnExactHalveImage answers true for every image: the program's HalveImage is the reference's, and its result is memory of its own. No condition. -/
import Derived.Test.YtmaiifghplcjeaaPrintHimplHalveImage
import Derived.Test.YtmaiifghplcjeaaPrintHimplimageBy
import Derived.Test.YtmaiifghplcjeaaPrintHx0
import Derived.Test.YtmaiifghplcjeaaPrintHx2
import Derived.Test.YtmaiifghplcjeaaPrintLFnExactHalveImage
import Derived.Test.YtmaiifghplcjeaaPrintR0x0
import Derived.Test.YtmaiifghplcjeaaPrintR1x0
import Derived.Test.YtmaiifghplcjeaaPrintR1x1
import Derived.Test.YtmaiifghplcjeaaPrintR1x2
namespace Go.Proofs.Ytmaiifghplcjeaa.Pure
open Go.RowKit Go.Proofs.Ytmaiifghplcjeaa.Print Go.Proofs.YtmaiifghplcjeaaW.PrintWords Go.Proofs.YtmaiifghplcjeaaW.PrintLast Go.Proofs.YtmaiifghplcjeaaW.PrintMore
set_option linter.unusedVariables false
set_option linter.unusedSimpArgs false
theorem rdN (l : List Int) (k : Nat) (h : k < l.length) : rd l (k : Int) = l[k] := by
  simp [rd, List.getD_eq_getElem?_getD, List.getElem?_eq_getElem h]
theorem drop_cons_ {α : Type} (l : List α) (k : Nat) (h : k < l.length) : l.drop k = l[k] :: l.drop (k + 1) := List.drop_eq_getElem_cons h
theorem take_snocN {α : Type} (l : List α) (k : Nat) (h : k < l.length) : l.take (k + 1) = l.take k ++ [l[k]] := by
  rw [List.take_succ_eq_append_getElem h]
/-- Two lists of one length, from a place on. -/
theorem decide_drop_eq {α : Type} [DecidableEq α] (a b : List α) (i : Nat) (h1 : i < a.length) (h2 : i < b.length) : decide (a.drop i = b.drop i) = (decide (a[i] = b[i]) && decide (a.drop (i + 1) = b.drop (i + 1))) := by
  rw [drop_cons_ a i h1, drop_cons_ b i h2]
  rw [Bool.eq_iff_iff]
  simp only [decide_eq_true_eq, Bool.and_eq_true, List.cons.injEq]

theorem laws_eqIntS.ev_l0 (a b : List Int) (hab : a.length = b.length) (hl : a.length ≤ 9223372036854775807) (d : Nat) : ∀ i, i ≤ a.length → a.length - i = d →
    Ev (fun k => laws_eqIntS.l0 k a b (i : Int)) (decide (a.drop i = b.drop i)) := by
  induction d with
  | zero =>
    intro i hi hd
    refine Ev.step (fun k => by simp only [laws_eqIntS.l0]; rfl) (evNeg (by omega) (evRet ?_))
    rw [List.drop_of_length_le (by omega), List.drop_of_length_le (by omega)]
    rfl
  | succ d ih =>
    intro i hi hd
    have hw : wrap64 ((i : Int) + 1) = ((i + 1 : Nat) : Int) := wrapSucc i (by omega)
    refine Ev.step (fun k => by simp only [laws_eqIntS.l0, hw]; rfl) (evPos (by omega) (evPos (by omega) (evPos (by omega) ?_)))
    rw [decide_drop_eq a b i (by omega) (by omega), rdN a i (by omega), rdN b i (by omega)]
    refine evIf (fun h => ?_) (fun h => evRet ?_)
    · rw [decide_eq_true h, Bool.true_and]
      exact ih (i + 1) (by omega) (by omega)
    · rw [decide_eq_false h, Bool.false_and]
theorem laws_eqIntS.ev (a b : List Int) (hl : a.length ≤ 9223372036854775807) : Ev (fun k => laws_eqIntS.f k a b) (decide (a = b)) := by
  unfold laws_eqIntS.f
  refine evIf (fun h => ?_) (fun h => evRet ?_)
  · have := laws_eqIntS.ev_l0 a b (by omega) hl a.length 0 (by omega) (by omega)
    simpa using this
  · rw [eq_comm, decide_eq_false_iff_not]
    intro hab
    exact h (by rw [hab])

theorem laws_toIntS.ev_l0 (l : List Int) (hl : l.length ≤ 9223372036854775806) (d : Nat) : ∀ i, i ≤ l.length → l.length - i = d →
    Ev (fun k => laws_toIntS.l0 k l (l.take i ++ List.replicate (l.length - i) 0) (i : Int)) l := by
  induction d with
  | zero =>
    intro i hi hd
    refine Ev.step (fun k => by simp only [laws_toIntS.l0]; rfl) (evNeg (by omega) (evRet ?_))
    rw [List.take_of_length_le (by omega), hd]
    simp
  | succ d ih =>
    intro i hi hd
    have hw : wrap64 ((i : Int) + 1) = ((i + 1 : Nat) : Int) := wrapSucc i (by omega)
    have hs : (l.take i ++ List.replicate (l.length - i) 0).set (i : Int).toNat (rd l i) = l.take (i + 1) ++ List.replicate (l.length - (i + 1)) 0 := by
      rw [Int.toNat_natCast, List.set_append_right _ _ (by simp; omega), List.length_take, show i - min i l.length = 0 by omega, show l.length - i = (l.length - (i + 1)) + 1 by omega, List.replicate_succ, List.set_cons_zero, rdN l i (by omega), take_snocN l i (by omega), List.append_assoc]
      rfl
    refine Ev.step (fun k => by simp only [laws_toIntS.l0, hw, hs]; rfl) (evPos (by omega) (evPos (by omega) (evPos (by simp; omega) ?_)))
    exact ih (i + 1) (by omega) (by omega)
theorem laws_toIntS.ev (l : List Int) (hl : l.length * 8 ≤ 140737488351232) : Ev (fun k => laws_toIntS.f k l) l := by
  have h := laws_toIntS.ev_l0 l (by omega) l.length 0 (by omega) (by omega)
  unfold laws_toIntS.f
  refine evPos (by omega) (evPos (by rw [Int.toNat_natCast]; omega) ?_)
  rw [Int.toNat_natCast]
  simpa using h

theorem laws_szImage.val (a b c : Int) (l : List Int) (m : Int) (hm0 : 0 ≤ m) (hm1 : m ≤ 1048576) (hl : l.length ≤ maxLen) : laws_szImage.f a b c l m = some (if m < l.length then -1 else m - l.length) := by
  simp only [maxLen] at hl
  unfold laws_szImage.f laws_szIntS.f
  rw [wrapIn (x := m - (l.length : Int)) (by omega) (by omega)]
  by_cases h : m < l.length
  · rw [if_pos (by omega), if_pos h]
    simp
  · rw [if_neg (by omega), if_neg h]
    simp only [Option.bind_some]
    rw [if_neg (by omega)]
theorem laws_toImage.ev (a b c : Int) (l : List Int) (hl : l.length * 8 ≤ 140737488351232) : Ev (fun k => laws_toImage.f k a b c l) (a, b, c, l) := by
  unfold laws_toImage.f
  exact evBind (laws_toIntS.ev l hl) (evRet rfl)
theorem laws_eqImage.refl (a b c : Int) (l : List Int) (hl : l.length ≤ 9223372036854775807) : Ev (fun k => laws_eqImage.f k a b c l a b c l) true := by
  have h := laws_eqIntS.ev l l hl
  rw [decide_eq_true rfl] at h
  unfold laws_eqImage.f
  exact evPos rfl (evPos rfl (evPos rfl (evBind h (evPos rfl (evRet rfl)))))
theorem spec_newImage.val (a b c : Int) (ha : 1 ≤ a ∧ a ≤ 16) (hb : 1 ≤ b ∧ b ≤ 16) (hc : 1 ≤ c ∧ c ≤ 4) : spec_newImage.f a b c = some (a, b, c, List.replicate (a * b * c).toNat 0) := by
  obtain ⟨h1, h2, h3, h4⟩ := shape_prod ha hb hc
  unfold spec_newImage.f
  rw [shape_wrap ha hb hc, if_pos (by omega), if_pos (by omega)]
theorem inRange_val (a lo hi : Int) : spec_inRange.f a lo hi = some (decide (lo ≤ a ∧ a ≤ hi)) := by
  unfold spec_inRange.f
  split
  · rename_i h; simp [h]
  · rename_i h; simp [h]

/-- All numbers of a list lie in a range. -/
def allB (lo hi : Int) (l : List Int) : Bool := l.all fun x => decide (lo ≤ x ∧ x ≤ hi)
theorem allB_iff (lo hi : Int) (l : List Int) : allB lo hi l = true ↔ ∀ x ∈ l, lo ≤ x ∧ x ≤ hi := by
  unfold allB
  rw [List.all_eq_true]
  simp only [decide_eq_true_eq]
theorem spec_allIn.ev_l0 (l : List Int) (lo hi : Int) (hl : l.length ≤ 9223372036854775806) (d : Nat) : ∀ i, i ≤ l.length → l.length - i = d →
    Ev (fun k => spec_allIn.l0 k l lo hi (i : Int)) (allB lo hi (l.drop i)) := by
  induction d with
  | zero =>
    intro i hi' hd
    refine Ev.step (fun k => by simp only [spec_allIn.l0]; rfl) (evNeg (by omega) (evRet ?_))
    rw [List.drop_of_length_le (by omega)]
    rfl
  | succ d ih =>
    intro i hi' hd
    have hw : wrap64 ((i : Int) + 1) = ((i + 1 : Nat) : Int) := wrapSucc i (by omega)
    refine Ev.step (fun k => by simp only [spec_allIn.l0, hw]; rfl) (evPos (by omega) (evPos (by omega) ?_))
    rw [rdN l i (by omega), drop_cons_ l i (by omega)]
    have hr : spec_inRange.f l[i] lo hi = some (decide (lo ≤ l[i] ∧ l[i] ≤ hi)) := by
      unfold spec_inRange.f
      split
      · rename_i h; simp [h]
      · rename_i h; simp [h]
    have e : allB lo hi (l[i] :: l.drop (i + 1)) = (decide (lo ≤ l[i] ∧ l[i] ≤ hi) && allB lo hi (l.drop (i + 1))) := by
      unfold allB
      rw [List.all_cons]
    rw [e]
    refine evFix hr (evIf (fun h => ?_) (fun h => evRet ?_))
    · rw [h, Bool.true_and]
      exact ih (i + 1) (by omega) (by omega)
    · rw [Bool.eq_false_iff.mpr h, Bool.false_and]
theorem spec_allIn.ev (l : List Int) (lo hi : Int) (hl : l.length ≤ 9223372036854775806) : Ev (fun k => spec_allIn.f k l lo hi) (allB lo hi l) := by
  have := spec_allIn.ev_l0 l lo hi hl l.length 0 (by omega) (by omega)
  unfold spec_allIn.f
  simpa using this

theorem spec_validShape.val (a b c : Int) : spec_validShape.f a b c = some (decide ((1 ≤ a ∧ a ≤ 16) ∧ (1 ≤ b ∧ b ≤ 16) ∧ (1 ≤ c ∧ c ≤ 4))) := by
  unfold spec_validShape.f
  rw [inRange_val, inRange_val, inRange_val]
  simp only [Option.bind_some, decide_eq_true_eq]
  by_cases h1 : 1 ≤ a ∧ a ≤ 16
  · rw [if_pos h1]
    by_cases h2 : 1 ≤ b ∧ b ≤ 16
    · rw [if_pos h2]
      congr 1
      rw [Bool.eq_iff_iff]
      simp only [decide_eq_true_eq]
      exact ⟨fun h => ⟨h1, h2, h⟩, fun h => h.2.2⟩
    · rw [if_neg h2, decide_eq_false (fun h => h2 h.2.1)]
  · rw [if_neg h1, decide_eq_false (fun h => h1 h.1)]
theorem allB_bytes (l : List Int) : allB 0 255 l = decide (∀ x ∈ l, 0 ≤ x ∧ x ≤ 255) := by
  rw [Bool.eq_iff_iff, allB_iff, decide_eq_true_eq]
theorem spec_validImage.ev (a b c : Int) (l : List Int) (hl : l.length ≤ 9223372036854775806) : Ev (fun k => spec_validImage.f k a b c l) (decide (ImgOk a b c l)) := by
  unfold spec_validImage.f
  refine evFix (spec_validShape.val a b c) ?_
  by_cases h : (1 ≤ a ∧ a ≤ 16) ∧ (1 ≤ b ∧ b ≤ 16) ∧ (1 ≤ c ∧ c ≤ 4)
  · refine evPos (decide_eq_true h) ?_
    rw [shape_wrap h.1 h.2.1 h.2.2]
    by_cases h2 : (l.length : Int) = a * b * c
    · refine evPos h2 ?_
      have h3 := spec_allIn.ev l 0 255 hl
      refine evBind h3 (evRet ?_)
      rw [allB_bytes, Bool.eq_iff_iff]
      simp only [decide_eq_true_eq]
      exact ⟨fun h3 => ⟨h.1, h.2.1, h.2.2, h2, h3⟩, fun hh => hh.2.2.2.2⟩
    · exact evNeg h2 (evRet (decide_eq_false (fun hh : ImgOk a b c l => h2 hh.2.2.2.1)).symm)
  · exact evNeg (by rw [decide_eq_false h]; simp) (evRet (decide_eq_false (fun hh : ImgOk a b c l => h ⟨hh.1, hh.2.1, hh.2.2.1⟩)).symm)

theorem spec_copyInts.val (l : List Int) (h : l.length < 17592186044416) : spec_copyInts.f l = some l := by
  unfold spec_copyInts.f
  simp [h]

theorem place_wrap (W p x y : Nat) (hW : W ≤ 16) (hp : p ≤ 4) (hx : x ≤ 16) (hy : y ≤ 16) : wrap64 (wrap64 (wrap64 ((y : Int) * (W : Int)) + (x : Int)) * (p : Int)) = (((y * W + x) * p : Nat) : Int) := by
  have h1 : y * W ≤ 16 * 16 := Nat.mul_le_mul hy hW
  have h2 : (y * W + x) * p ≤ 272 * 4 := Nat.mul_le_mul (by omega) hp
  have e1 : (y : Int) * (W : Int) = ((y * W : Nat) : Int) := by push_cast; rfl
  have e2 : ((y * W + x : Nat) : Int) * (p : Int) = (((y * W + x) * p : Nat) : Int) := by push_cast; rfl
  rw [e1, wrapNat (y * W) (by omega), show ((y * W : Nat) : Int) + (x : Int) = ((y * W + x : Nat) : Int) by omega, wrapNat (y * W + x) (by omega), e2, wrapNat _ (by omega)]
theorem spec_pixelAt.val (W H p : Nat) (l : List Int) (x y : Nat) (hl : l.length = W * H * p) (hW : W ≤ 16) (hH : H ≤ 16) (hp : p ≤ 4) (hx : x < W) (hy : y < H) : spec_pixelAt.f (W : Int) (H : Int) (p : Int) l (x : Int) (y : Int) = some (pixN W p l x y) := by
  have h := pix_lt (p := p) hx hy
  rw [← hl] at h
  have hlen := pixN_length hx hy hl
  have h2 : (y * W + x) * p ≤ 272 * 4 := Nat.mul_le_mul (by have : y * W ≤ 16 * 16 := Nat.mul_le_mul (by omega) hW; omega) hp
  unfold spec_pixelAt.f
  rw [place_wrap W p x y hW hp (by omega) (by omega)]
  have e : wrap64 ((((y * W + x) * p : Nat) : Int) + (p : Int)) = (((y * W + x) * p + p : Nat) : Int) := by rw [wrapIn (by omega) (by omega)]; omega
  rw [e, if_pos (by omega), if_pos (by omega), if_pos (by omega), Int.toNat_natCast, Int.toNat_natCast]
  have hc := spec_copyInts.val (pixN W p l x y) (by omega)
  unfold pixN at hc ⊢
  rw [hc]
  rfl
theorem rd_app_l (A B : List Int) (i : Nat) (h : i < A.length) : rd (A ++ B) (i : Int) = rd A (i : Int) := by
  simp [rd, List.getD_eq_getElem?_getD, List.getElem?_append_left h]
theorem rd_app_r (A B : List Int) (r : Nat) : rd (A ++ B) ((A.length + r : Nat) : Int) = rd B (r : Int) := by
  simp [rd, List.getD_eq_getElem?_getD, List.getElem?_append_right, -Int.natCast_add, Int.toNat_natCast]
theorem pixels_lenp (f : Nat → Nat → List Int) (W p : Nat) (hf : ∀ x y, (f x y).length = p) (n : Nat) : (pixelsUpto f W n).length = n * p := by
  induction n with
  | zero => simp [pixelsUpto]
  | succ n ih =>
    unfold pixelsUpto at ih ⊢
    rw [List.range_succ, List.flatMap_append, List.length_append, ih, List.flatMap_cons, List.flatMap_nil, List.append_nil, hf, Nat.succ_mul]
theorem pixelsUpto_get (f : Nat → Nat → List Int) (W p : Nat) (hp : 0 < p) (hf : ∀ x y, (f x y).length = p) (n : Nat) : ∀ i, i < n * p → rd (pixelsUpto f W n) (i : Int) = rd (f (i / p % W) (i / p / W)) ((i % p : Nat) : Int) := by
  induction n with
  | zero => intro i hi; omega
  | succ n ih =>
    intro i hi
    have hlen := pixels_lenp f W p hf n
    have e : pixelsUpto f W (n + 1) = pixelsUpto f W n ++ f (n % W) (n / W) := by
      unfold pixelsUpto
      rw [List.range_succ, List.flatMap_append, List.flatMap_cons, List.flatMap_nil, List.append_nil]
    rw [e]
    by_cases h : i < n * p
    · rw [rd_app_l _ _ i (by omega)]
      exact ih i h
    · rw [Nat.succ_mul] at hi
      obtain ⟨r, rfl⟩ : ∃ r, i = n * p + r := ⟨i - n * p, by omega⟩
      have h2 : rd (pixelsUpto f W n ++ f (n % W) (n / W)) ((n * p + r : Nat) : Int) = rd (f (n % W) (n / W)) (r : Int) := by
        rw [← hlen]
        exact rd_app_r _ _ r
      have h3 : (n * p + r) / p = n := by rw [Nat.mul_comm, Nat.mul_add_div hp, Nat.div_eq_of_lt (by omega), Nat.add_zero]
      have h4 : (n * p + r) % p = r := by rw [Nat.mul_comm, Nat.mul_add_mod, Nat.mod_eq_of_lt (by omega)]
      rw [h2, h3, h4]
theorem part_set (F : List Int) (i : Nat) (h : i < F.length) : (F.take i ++ List.replicate (F.length - i) 0).set i (rd F (i : Int)) = F.take (i + 1) ++ List.replicate (F.length - (i + 1)) 0 := by
  have e : (F.take i).length = i := by rw [List.length_take]; omega
  rw [rdN F i h, List.set_append_right _ _ (by omega), e, Nat.sub_self, show F.length - i = (F.length - (i + 1)) + 1 by omega, List.replicate_succ, List.set_cons_zero, List.take_succ_eq_append_getElem h, List.append_assoc]
  rfl
theorem pixN_rd {W H p x y k : Nat} {l : List Int} (hx : x < W) (hy : y < H) (hk : k < p) (hl : l.length = W * H * p) : rd (pixN W p l x y) (k : Int) = rd l (((y * W + x) * p + k : Nat) : Int) := by
  have h1 := half_place hx hy hk
  have h2 := pixN_length hx hy hl
  rw [rdN _ k (by omega), rdN l _ (by omega)]
  unfold pixN
  rw [List.getElem_drop, List.getElem_take]
theorem half_wrap {a b c d : Int} (ha : 0 ≤ a ∧ a ≤ 255) (hb : 0 ≤ b ∧ b ≤ 255) (hc : 0 ≤ c ∧ c ≤ 255) (hd : 0 ≤ d ∧ d ≤ 255) : wrap64 (Int.tdiv (wrap64 (wrap64 (wrap64 (wrap64 (a + b) + c) + d) + 2)) 4) = (a + b + c + d + 2) / 4 := by
  rw [wrapIn (x := a + b) (by omega) (by omega), wrapIn (x := a + b + c) (by omega) (by omega), wrapIn (x := a + b + c + d) (by omega) (by omega), wrapIn (x := a + b + c + d + 2) (by omega) (by omega), Int.tdiv_eq_ediv_of_nonneg (by omega), wrapIn (by omega) (by omega)]
theorem halfL_rd (W p : Nat) (l : List Int) (x y n k : Nat) (h : k < n) : rd (halfL W p l x y n) (k : Int) = halfN W p l x y k := by
  rw [rdN _ k (by rw [halfL_length]; exact h)]
  simp [halfL]
theorem wN (n : Nat) (h : n ≤ 2000) : wrap64 (n : Int) = (n : Int) := wrapNat n (by omega)
theorem wS (n : Nat) (h : n ≤ 2000) : wrap64 ((n : Int) + 1) = ((n + 1 : Nat) : Int) := wrapSucc n (by omega)
theorem wD (n : Nat) (h : n ≤ 2000) : wrap64 ((n : Int) * 2) = ((2 * n : Nat) : Int) := by rw [wrapIn (by omega) (by omega)]; omega
theorem spec_HalveImage.ev_l0 (w h p : Nat) (l : List Int) (hl : l.length = (2 * w) * (2 * h) * p) (hw : 1 ≤ w ∧ w ≤ 8) (hh : 1 ≤ h ∧ h ≤ 8) (hp : 1 ≤ p ∧ p ≤ 4) (hb : ∀ z ∈ l, 0 ≤ z ∧ z ≤ 255) (F : List Int) (hF : F = pixelsUpto (fun x y => halfL (2 * w) p l x y p) w (w * h)) (hlen : F.length = w * h * p) (d : Nat) : ∀ i, i ≤ F.length → F.length - i = d →
    Ev (fun k => spec_HalveImage.l0 k (i : Int) ((2 * w : Nat) : Int) ((2 * h : Nat) : Int) (p : Int) l (w : Int) (h : Int) (p : Int) (F.take i ++ List.replicate (F.length - i) 0)) ((w : Int), (h : Int), (p : Int), F) := by
  induction d with
  | zero =>
    intro i hi hd
    refine Ev.step (fun k => by simp only [spec_HalveImage.l0]; rfl) (evNeg (by rw [List.length_append, List.length_take, List.length_replicate]; omega) (evRet ?_))
    rw [show i = F.length by omega, List.take_length, Nat.sub_self]
    simp
  | succ d ih =>
    intro i hi hd
    have hlt : i < F.length := by omega
    have hn := ih (i + 1) (by omega) (by omega)
    clear ih
    have hbig : F.length ≤ 8 * 8 * 4 := by rw [hlen]; exact Nat.mul_le_mul (Nat.mul_le_mul hw.2 hh.2) hp.2
    have hle : (F.take i ++ List.replicate (F.length - i) 0).length = F.length := by rw [List.length_append, List.length_take, List.length_replicate]; omega
    obtain ⟨x, hx⟩ : ∃ x, x = i / p % w := ⟨_, rfl⟩
    obtain ⟨y, hy⟩ : ∃ y, y = i / p / w := ⟨_, rfl⟩
    obtain ⟨q, hq⟩ : ∃ q, q = i % p := ⟨_, rfl⟩
    have hxw : x < w := by rw [hx]; exact Nat.mod_lt _ (by omega)
    have hqp : q < p := by rw [hq]; exact Nat.mod_lt _ (by omega)
    have hyh : y < h := by
      rw [hy]
      have : i / p < w * h := by rw [Nat.div_lt_iff_lt_mul (by omega)]; omega
      rw [Nat.div_lt_iff_lt_mul (by omega), Nat.mul_comm]
      exact this
    have P1 := spec_pixelAt.val (2 * w) (2 * h) p l (2 * x) (2 * y) hl (by omega) (by omega) (by omega) (by omega) (by omega)
    have P2 := spec_pixelAt.val (2 * w) (2 * h) p l (2 * x + 1) (2 * y) hl (by omega) (by omega) (by omega) (by omega) (by omega)
    have P3 := spec_pixelAt.val (2 * w) (2 * h) p l (2 * x) (2 * y + 1) hl (by omega) (by omega) (by omega) (by omega) (by omega)
    have P4 := spec_pixelAt.val (2 * w) (2 * h) p l (2 * x + 1) (2 * y + 1) hl (by omega) (by omega) (by omega) (by omega) (by omega)
    have hip : i / p ≤ i := Nat.div_le_self _ _
    have hiw : i / p / w ≤ i / p := Nat.div_le_self _ _
    have b1 : i ≤ 2000 := by omega
    have b2 : i / p ≤ 2000 := by omega
    have b3 : i / p / w ≤ 2000 := by omega
    have b4 : x ≤ 2000 := by omega
    have b5 : y ≤ 2000 := by omega
    have b6 : 2 * x ≤ 2000 := by omega
    have b7 : 2 * y ≤ 2000 := by omega
    have hv : rd F (i : Int) = halfN (2 * w) p l x y q := by
      rw [hF, pixelsUpto_get _ w p (by omega) (fun x y => halfL_length _ _ _ _ _ _) (w * h) i (by omega), ← hx, ← hy, ← hq]
      exact halfL_rd _ _ _ _ _ _ _ hqp
    have g : ∀ x' y', x' < 2 * w → y' < 2 * h → 0 ≤ rd (pixN (2 * w) p l x' y') (q : Int) ∧ rd (pixN (2 * w) p l x' y') (q : Int) ≤ 255 := by
      intro x' y' h1 h2
      have h3 := half_place h1 h2 hqp
      rw [pixN_rd h1 h2 hqp hl, rdN l _ (by omega)]
      exact hb _ (List.getElem_mem _)
    have gl : ∀ x' y', x' < 2 * w → y' < 2 * h → (pixN (2 * w) p l x' y').length = p := fun x' y' h1 h2 => pixN_length h1 h2 hl
    unfold halfN at hv
    rw [← pixN_rd (x := 2 * x) (y := 2 * y) (by omega) (by omega) hqp hl, ← pixN_rd (x := 2 * x + 1) (y := 2 * y) (by omega) (by omega) hqp hl, ← pixN_rd (x := 2 * x) (y := 2 * y + 1) (by omega) (by omega) hqp hl, ← pixN_rd (x := 2 * x + 1) (y := 2 * y + 1) (by omega) (by omega) hqp hl,
      ← half_wrap (g (2 * x) (2 * y) (by omega) (by omega)) (g (2 * x + 1) (2 * y) (by omega) (by omega)) (g (2 * x) (2 * y + 1) (by omega) (by omega)) (g (2 * x + 1) (2 * y + 1) (by omega) (by omega))] at hv
    rw [← part_set F i hlt, hv] at hn
    have t0 : Int.tmod (i : Int) (p : Int) = (q : Int) := by rw [hq]; rfl
    have t1 : wrap64 (Int.tdiv (i : Int) (p : Int)) = ((i / p : Nat) : Int) := wN (i / p) b2
    have t2 : Int.tmod ((i / p : Nat) : Int) (w : Int) = (x : Int) := by rw [hx]; rfl
    have t3 : wrap64 (Int.tdiv ((i / p : Nat) : Int) (w : Int)) = (y : Int) := by rw [hy]; exact wN (i / p / w) b3
    have t4 := wD x b4
    have t5 := wD y b5
    have t6 := wS (2 * x) b6
    have t7 := wS (2 * y) b7
    have t8 := wS i b1
    refine Ev.step (fun k => by simp only [spec_HalveImage.l0, t0, t1, t2, t3, t4, t5, t6, t7, t8, Int.toNat_natCast]; rfl) ?_
    clear t0 t1 t2 t3 t4 t5 t6 t7 t8 hv hx hy hq
    refine evPos (by rw [hle]; omega) (evNeg (by omega) (evNeg (by omega) (evFix P1 (evPos (by omega) (evPos (by rw [gl _ _ (by omega) (by omega)]; omega) (evFix P2 (evPos (by rw [gl _ _ (by omega) (by omega)]; omega) (evFix P3 (evPos (by rw [gl _ _ (by omega) (by omega)]; omega) (evFix P4 (evPos (by rw [gl _ _ (by omega) (by omega)]; omega) (evPos (by omega) ?_))))))))))))
    exact hn
theorem spec_HalveImage.ev (a b c : Int) (l : List Int) (hl : l.length ≤ 9223372036854775806) : Ev (fun k => spec_HalveImage.f k a b c l) (if HalfOk a b c l then (a / 2, b / 2, c, pixelsUpto (fun x y => halfL a.toNat c.toNat l x y c.toNat) (a.toNat / 2) (a.toNat / 2 * (b.toNat / 2))) else (0, 0, 0, [])) := by
  unfold spec_HalveImage.f
  refine evBind (spec_validImage.ev a b c l hl) ?_
  by_cases hi : ImgOk a b c l
  · refine evPos (decide_eq_true hi) ?_
    obtain ⟨W, H, p, rfl, rfl, rfl, hlen, b1, b2, b3, b4, b5, b6⟩ := hi.nats
    have m1 : Int.tmod (W : Int) 2 = ((W % 2 : Nat) : Int) := rfl
    have m2 : Int.tmod (H : Int) 2 = ((H % 2 : Nat) : Int) := rfl
    by_cases h2 : W % 2 = 0
    · refine evPos (by rw [m1]; omega) ?_
      by_cases h3 : H % 2 = 0
      · have hb : (Int.tmod (H : Int) 2 != 0) = false := by rw [m2, h3]; rfl
        rw [hb, if_pos (show HalfOk (W : Int) (H : Int) (p : Int) l from ⟨hi, by omega, by omega⟩)]
        clear m1 m2 hb
        obtain ⟨w, rfl⟩ : ∃ w, W = 2 * w := ⟨W / 2, by omega⟩
        obtain ⟨h, rfl⟩ : ∃ h, H = 2 * h := ⟨H / 2, by omega⟩
        have e1 : wrap64 (Int.tdiv ((2 * w : Nat) : Int) 2) = (w : Int) := by
          have : Int.tdiv ((2 * w : Nat) : Int) 2 = ((2 * w / 2 : Nat) : Int) := rfl
          rw [this, wrapNat _ (by omega)]; omega
        have e2 : wrap64 (Int.tdiv ((2 * h : Nat) : Int) 2) = (h : Int) := by
          have : Int.tdiv ((2 * h : Nat) : Int) 2 = ((2 * h / 2 : Nat) : Int) := rfl
          rw [this, wrapNat _ (by omega)]; omega
        have hn := spec_newImage.val (w : Int) (h : Int) (p : Int) ⟨by omega, by omega⟩ ⟨by omega, by omega⟩ ⟨by omega, by omega⟩
        refine Ev.step (fun k => by simp only [spec_HalveImage.j0, e1, e2]; rfl) (evNeg (by simp) (evFix hn ?_))
        clear e1 e2 hn
        have hF := pixels_lenp (fun x y => halfL (2 * w) p l x y p) w p (fun x y => halfL_length _ _ _ _ _ _) (w * h)
        have h4 := spec_HalveImage.ev_l0 w h p l hlen (by omega) (by omega) (by omega) hi.2.2.2.2 _ rfl hF (w * h * p) 0 (by omega) (by omega)
        rw [List.take_zero, List.nil_append, Nat.sub_zero, hF] at h4
        have e : ((w : Int) * (h : Int) * (p : Int)).toNat = w * h * p := by
          rw [show (w : Int) * (h : Int) * (p : Int) = ((w * h * p : Nat) : Int) by push_cast; rfl, Int.toNat_natCast]
        have r1 : ((2 * w : Nat) : Int) / 2 = (w : Int) := by omega
        have r2 : ((2 * h : Nat) : Int) / 2 = (h : Int) := by omega
        have r3 : 2 * w / 2 = w := by omega
        have r4 : 2 * h / 2 = h := by omega
        simp only [e, Int.toNat_natCast, r1, r2, r3, r4]
        exact h4
      · have hb : (Int.tmod (H : Int) 2 != 0) = true := by rw [m2, show H % 2 = 1 by omega]; rfl
        rw [hb, if_neg (fun hk : HalfOk (W : Int) (H : Int) (p : Int) l => h3 (by have := hk.2.2; omega))]
        exact Ev.step (fun k => by simp only [spec_HalveImage.j0]; rfl) (evPos (by trivial) (evRet rfl))
    · rw [if_neg (fun hk : HalfOk (W : Int) (H : Int) (p : Int) l => h2 (by have := hk.2.1; omega))]
      exact evNeg (by rw [m1]; omega) (Ev.step (fun k => by simp only [spec_HalveImage.j0]; rfl) (evPos (by trivial) (evRet rfl)))
  · rw [if_neg (fun hk : HalfOk a b c l => hi hk.1)]
    exact evNeg (by rw [decide_eq_false hi]; simp) (Ev.step (fun k => by simp only [spec_HalveImage.j0]; rfl) (evPos (by trivial) (evRet rfl)))

/-- What is left behind the marking. -/
def marks (m : Int) : Nat → List Int
  | 0 => []
  | n + 1 => m :: marks (m + 1) n
theorem marks_length (m : Int) (n : Nat) : (marks m n).length = n := by
  induction n generalizing m with
  | zero => rfl
  | succ n ih => simp [marks, ih]
theorem marks_snoc (m : Int) (n : Nat) : marks m (n + 1) = marks m n ++ [m + n] := by
  induction n generalizing m with
  | zero => simp [marks]
  | succ n ih =>
    rw [marks, ih (m + 1), marks]
    simp
    omega
theorem marks_get (m : Int) (n i : Nat) (h : i < n) (h' : i < (marks m n).length) : (marks m n)[i] = m + i := by
  induction n generalizing m i with
  | zero => omega
  | succ n ih =>
    cases i with
    | zero => simp [marks]
    | succ i =>
      simp only [marks, List.getElem_cons_succ]
      rw [ih (m + 1) i (by omega) (by rw [marks_length]; omega)]
      omega
theorem laws_markIntS.ev_l0 (l : List Int) (m : Int) (hm : 0 ≤ m) (hl : m + l.length ≤ 9223372036854775806) (d : Nat) : ∀ i, i ≤ l.length → l.length - i = d →
    Ev (fun k => laws_markIntS.l0 k (marks m i ++ l.drop i) (m + i) (i : Int)) (m + l.length, marks m l.length) := by
  induction d with
  | zero =>
    intro i hi hd
    have hil : i = l.length := by omega
    refine Ev.step (fun k => by simp only [laws_markIntS.l0]; rfl) (evNeg (by simp [marks_length]; omega) (evRet ?_))
    rw [hil]
    simp
  | succ d ih =>
    intro i hi hd
    have hw : wrap64 ((i : Int) + 1) = ((i + 1 : Nat) : Int) := wrapSucc i (by omega)
    have hw2 : wrap64 (m + i + 1) = m + ((i + 1 : Nat) : Int) := by rw [wrapIn (by omega) (by omega)]; omega
    have hs : (marks m i ++ l.drop i).set (i : Int).toNat (m + i) = marks m (i + 1) ++ l.drop (i + 1) := by
      rw [Int.toNat_natCast, List.set_append_right _ _ (by rw [marks_length]; omega), marks_length, Nat.sub_self, drop_cons_ l i (by omega), List.set_cons_zero, marks_snoc]
      simp
    refine Ev.step (fun k => by simp only [laws_markIntS.l0, hw, hw2, hs]; rfl) (evPos (by simp [marks_length]; omega) (evPos (by omega) ?_))
    exact ih (i + 1) (by omega) (by omega)
theorem laws_markIntS.ev (l : List Int) (m : Int) (hm : 0 ≤ m) (hl : m + l.length ≤ 9223372036854775806) : Ev (fun k => laws_markIntS.f k l m) (m + l.length, marks m l.length) := by
  have := laws_markIntS.ev_l0 l m hm hl l.length 0 (by omega) (by omega)
  unfold laws_markIntS.f
  simpa [marks] using this
theorem laws_heldIntS.ev_l0 (n : Nat) (m : Int) (hm : 0 ≤ m) (hl : m + n ≤ 9223372036854775806) (d : Nat) : ∀ i, i ≤ n → n - i = d →
    Ev (fun k => laws_heldIntS.l0 k (marks m n) (m + i) (i : Int)) (m + n) := by
  induction d with
  | zero =>
    intro i hi hd
    have hil : i = n := by omega
    refine Ev.step (fun k => by simp only [laws_heldIntS.l0]; rfl) (evNeg (by rw [marks_length]; omega) (evRet ?_))
    rw [hil]
  | succ d ih =>
    intro i hi hd
    have hw : wrap64 ((i : Int) + 1) = ((i + 1 : Nat) : Int) := wrapSucc i (by omega)
    have hw2 : wrap64 (m + i + 1) = m + ((i + 1 : Nat) : Int) := by rw [wrapIn (by omega) (by omega)]; omega
    refine Ev.step (fun k => by simp only [laws_heldIntS.l0, hw, hw2]; rfl) (evPos (by rw [marks_length]; omega) (evPos (by omega) (evPos ?_ ?_)))
    · rw [rdN _ i (by rw [marks_length]; omega), marks_get m n i (by omega)]
    · exact ih (i + 1) (by omega) (by omega)
theorem laws_heldIntS.ev (n : Nat) (m : Int) (hm : 0 ≤ m) (hl : m + n ≤ 9223372036854775806) : Ev (fun k => laws_heldIntS.f k (marks m n) m) (m + n) := by
  have := laws_heldIntS.ev_l0 n m hm hl n 0 (by omega) (by omega)
  unfold laws_heldIntS.f
  simpa using this

theorem laws_heldImage.ev (a b c : Int) (n : Nat) (m : Int) (hm : 0 ≤ m) (hl : m + n ≤ 9223372036854775806) : Ev (fun k => laws_heldImage.f k a b c (marks m n) m) (m + n) := by
  unfold laws_heldImage.f
  exact evBind (laws_heldIntS.ev n m hm hl) (evNeg (by omega) (evRet rfl))

theorem laws_markImage.ev (a b c : Int) (l : List Int) (m : Int) (hm : 0 ≤ m) (hl : m + l.length ≤ 9223372036854775806) : Ev (fun k => laws_markImage.f k a b c l m) (m + l.length, marks m l.length) := by
  unfold laws_markImage.f
  exact evBind (laws_markIntS.ev l m hm hl) (evRet rfl)

theorem FnExactHalveImage : laws_FnExactHalveImage.Pure := by
  intro a b c l _ _ _ hl _
  refine Ev.rounds ?_
  unfold laws_FnExactHalveImage.f
  refine evFix (laws_szImage.val a b c l 1048576 (by omega) (by omega) hl) ?_
  by_cases hlt : (1048576 : Int) < l.length
  · rw [if_pos hlt]
    exact evPos (by omega) (evRet rfl)
  rw [if_neg hlt]
  have hb : l.length ≤ 1048576 := by omega
  have h1 := laws_toImage.ev a b c l (by omega)
  have h3 := spec_HalveImage.ev a b c l (by omega)
  have h4 : impl_HalveImage.f a b c l = some (if HalfOk a b c l then (a / 2, b / 2, c, pixelsUpto (fun x y => halfL a.toNat c.toNat l x y c.toNat) (a.toNat / 2) (a.toNat / 2 * (b.toNat / 2))) else (0, 0, 0, [])) := rfl
  have hr : (if HalfOk a b c l then (a / 2, b / 2, c, pixelsUpto (fun x y => halfL a.toNat c.toNat l x y c.toNat) (a.toNat / 2) (a.toNat / 2 * (b.toNat / 2))) else (0, 0, 0, [])).2.2.2.length ≤ 1048576 := by
    split
    · rename_i ok
      obtain ⟨W, H, p, rfl, rfl, rfl, hlen, b1, b2, b3, b4, b5, b6⟩ := ok.1.nats
      simp only [Int.toNat_natCast]
      have h5 := pixels_lenp (fun x y => halfL W p l x y p) (W / 2) p (fun x y => halfL_length _ _ _ _ _ _) (W / 2 * (H / 2))
      have h6 : W / 2 * (H / 2) * p ≤ 16 * 16 * 4 := Nat.mul_le_mul (Nat.mul_le_mul (by omega) (by omega)) b6
      omega
    · simp
  generalize (if HalfOk a b c l then (a / 2, b / 2, c, pixelsUpto (fun x y => halfL a.toNat c.toNat l x y c.toNat) (a.toNat / 2) (a.toNat / 2 * (b.toNat / 2))) else (0, 0, 0, [])) = r at *
  obtain ⟨ra, rb, rc, rl⟩ := r
  simp only [] at hr
  have heq := laws_eqImage.refl ra rb rc rl (by omega)
  have heql := laws_eqImage.refl a b c l (by omega)
  have hm1 := laws_markImage.ev a b c l 1 (by omega) (by omega)
  have hm3 := laws_markImage.ev ra rb rc rl 1 (by omega) (by omega)
  have hh := laws_heldImage.ev ra rb rc rl.length 1 (by omega) (by omega)
  repeat' first
    | exact evRet rfl
    | refine evFix (by assumption) ?_
    | refine evBind (by assumption) ?_
    | refine evPos (by first | omega | with_reducible rfl | exact True.intro) ?_
    | refine evNeg (by first | omega | (simp only []; omega) | simp) ?_
    | refine Ev.step (fun k => by simp only [laws_FnExactHalveImage.j0]; rfl) ?_

end Go.Proofs.Ytmaiifghplcjeaa.Pure
