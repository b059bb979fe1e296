/- FnMaskImageChanged answers true for every code: a mask of all changed pixels gives the other image. No condition. -/
import Derived.Test.YtbkhhlifpknbeaaPrintHimplChangedRegion
import Derived.Test.YtbkhhlifpknbeaaPrintHimplMaskImage
import Derived.Test.YtbkhhlifpknbeaaPrintHimplimageBy
import Derived.Test.YtbkhhlifpknbeaaPrintHx0
import Derived.Test.YtbkhhlifpknbeaaPrintHx2
import Derived.Test.YtbkhhlifpknbeaaPrintLFnMaskImageChanged
import Derived.Test.YtbkhhlifpknbeaaPrintR0x0
import Derived.Test.YtbkhhlifpknbeaaPrintR1x0
import Derived.Test.YtbkhhlifpknbeaaPrintR1x1
import Derived.Test.YtbkhhlifpknbeaaPrintR1x2
import Derived.Test.YtbkhhlifpknbeaaPrintR1x3
namespace Go.Proofs.Ytbkhhlifpknbeaa.Pure
open Go.RowKit Go.Proofs.Ytbkhhlifpknbeaa.Print Go.Proofs.YtbkhhlifpknbeaaW.PrintWords Go.Proofs.YtbkhhlifpknbeaaW.PrintLast Go.Proofs.YtbkhhlifpknbeaaW.PrintMore
set_option linter.unusedVariables false
set_option linter.unusedSimpArgs false
theorem rdN (l : List Int) (k : Nat) (h : k < l.length) : rd l (k : Int) = l[k] := by
  simp [rd, List.getD_eq_getElem?_getD, List.getElem?_eq_getElem h]
theorem drop_cons_ {α : Type} (l : List α) (k : Nat) (h : k < l.length) : l.drop k = l[k] :: l.drop (k + 1) := List.drop_eq_getElem_cons h
theorem take_snocN {α : Type} (l : List α) (k : Nat) (h : k < l.length) : l.take (k + 1) = l.take k ++ [l[k]] := by
  rw [List.take_succ_eq_append_getElem h]
/-- Two lists of one length, from a place on. -/
theorem decide_drop_eq {α : Type} [DecidableEq α] (a b : List α) (i : Nat) (h1 : i < a.length) (h2 : i < b.length) : decide (a.drop i = b.drop i) = (decide (a[i] = b[i]) && decide (a.drop (i + 1) = b.drop (i + 1))) := by
  rw [drop_cons_ a i h1, drop_cons_ b i h2]
  rw [Bool.eq_iff_iff]
  simp only [decide_eq_true_eq, Bool.and_eq_true, List.cons.injEq]

theorem laws_equalInts.ev_l0 (a b : List Int) (hab : a.length = b.length) (hl : a.length ≤ 9223372036854775807) (d : Nat) : ∀ i, i ≤ a.length → a.length - i = d →
    Ev (fun k => laws_equalInts.l0 k a b (i : Int)) (decide (a.drop i = b.drop i)) := by
  induction d with
  | zero =>
    intro i hi hd
    refine Ev.step (fun k => by simp only [laws_equalInts.l0]; rfl) (evNeg (by omega) (evRet ?_))
    rw [List.drop_of_length_le (by omega), List.drop_of_length_le (by omega)]
    rfl
  | succ d ih =>
    intro i hi hd
    have hw : wrap64 ((i : Int) + 1) = ((i + 1 : Nat) : Int) := wrapSucc i (by omega)
    refine Ev.step (fun k => by simp only [laws_equalInts.l0, hw]; rfl) (evPos (by omega) (evPos (by omega) (evPos (by omega) ?_)))
    rw [decide_drop_eq a b i (by omega) (by omega), rdN a i (by omega), rdN b i (by omega)]
    refine evIf (fun h => ?_) (fun h => evRet ?_)
    · rw [decide_eq_true h, Bool.true_and]
      exact ih (i + 1) (by omega) (by omega)
    · rw [decide_eq_false h, Bool.false_and]
theorem laws_equalInts.ev (a b : List Int) (hl : a.length ≤ 9223372036854775807) : Ev (fun k => laws_equalInts.f k a b) (decide (a = b)) := by
  unfold laws_equalInts.f
  refine evIf (fun h => ?_) (fun h => evRet ?_)
  · have := laws_equalInts.ev_l0 a b (by omega) hl a.length 0 (by omega) (by omega)
    simpa using this
  · rw [eq_comm, decide_eq_false_iff_not]
    intro hab
    exact h (by rw [hab])

theorem laws_equalImage.ev (a b c : Int) (l : List Int) (a' b' c' : Int) (l' : List Int) (hl : l.length ≤ 9223372036854775807) : Ev (fun k => laws_equalImage.f k a b c l a' b' c' l') (decide (a = a' ∧ b = b' ∧ c = c' ∧ l = l')) := by
  have h := laws_equalInts.ev l l' hl
  unfold laws_equalImage.f
  refine evIf (fun e1 => evIf (fun e2 => evIf (fun e3 => evBind h (evRet ?_)) (fun e3 => evRet ?_)) (fun e2 => evRet ?_)) (fun e1 => evRet ?_)
  · rw [Bool.eq_iff_iff]
    simp only [decide_eq_true_eq]
    exact ⟨fun h => ⟨e1, e2, e3, h⟩, fun h => h.2.2.2⟩
  · exact (decide_eq_false (fun h => e3 h.2.2.1)).symm
  · exact (decide_eq_false (fun h => e2 h.2.1)).symm
  · exact (decide_eq_false (fun h => e1 h.1)).symm
theorem laws_equalImage.refl (a b c : Int) (l : List Int) (hl : l.length ≤ 9223372036854775807) : Ev (fun k => laws_equalImage.f k a b c l a b c l) true := by
  have h := laws_equalImage.ev a b c l a b c l hl
  rwa [decide_eq_true ⟨rfl, rfl, rfl, rfl⟩] at h

theorem spec_copyInts.val (l : List Int) (h : l.length < 17592186044416) : spec_copyInts.f l = some l := by
  unfold spec_copyInts.f
  simp [h]

theorem place_wrap (W p x y : Nat) (hW : W ≤ 16) (hp : p ≤ 4) (hx : x ≤ 16) (hy : y ≤ 16) : wrap64 (wrap64 (wrap64 ((y : Int) * (W : Int)) + (x : Int)) * (p : Int)) = (((y * W + x) * p : Nat) : Int) := by
  have h1 : y * W ≤ 16 * 16 := Nat.mul_le_mul hy hW
  have h2 : (y * W + x) * p ≤ 272 * 4 := Nat.mul_le_mul (by omega) hp
  have e1 : (y : Int) * (W : Int) = ((y * W : Nat) : Int) := by push_cast; rfl
  have e2 : ((y * W + x : Nat) : Int) * (p : Int) = (((y * W + x) * p : Nat) : Int) := by push_cast; rfl
  rw [e1, wrapNat (y * W) (by omega), show ((y * W : Nat) : Int) + (x : Int) = ((y * W + x : Nat) : Int) by omega, wrapNat (y * W + x) (by omega), e2, wrapNat _ (by omega)]
theorem spec_pixelAt.val (W H p : Nat) (l : List Int) (x y : Nat) (hl : l.length = W * H * p) (hW : W ≤ 16) (hH : H ≤ 16) (hp : p ≤ 4) (hx : x < W) (hy : y < H) : spec_pixelAt.f (W : Int) (H : Int) (p : Int) l (x : Int) (y : Int) = some (pixN W p l x y) := by
  have h := pix_lt (p := p) hx hy
  rw [← hl] at h
  have hlen := pixN_length hx hy hl
  have h2 : (y * W + x) * p ≤ 272 * 4 := Nat.mul_le_mul (by have : y * W ≤ 16 * 16 := Nat.mul_le_mul (by omega) hW; omega) hp
  unfold spec_pixelAt.f
  rw [place_wrap W p x y hW hp (by omega) (by omega)]
  have e : wrap64 ((((y * W + x) * p : Nat) : Int) + (p : Int)) = (((y * W + x) * p + p : Nat) : Int) := by rw [wrapIn (by omega) (by omega)]; omega
  rw [e, if_pos (by omega), if_pos (by omega), if_pos (by omega), Int.toNat_natCast, Int.toNat_natCast]
  have hc := spec_copyInts.val (pixN W p l x y) (by omega)
  unfold pixN at hc ⊢
  rw [hc]
  rfl
/-- A list with a pixel's numbers put in. -/
def putPix (l px : List Int) (i : Nat) : List Int := l.take i ++ px ++ l.drop (i + px.length)
theorem putPix_upto (l px : List Int) (i q : Nat) (hi : i + px.length ≤ l.length) (hq : q < px.length) : (putPix l (px.take q) i).set (i + q) px[q] = putPix l (px.take (q + 1)) i := by
  unfold putPix
  have e1 : (l.take i).length = i := by rw [List.length_take]; omega
  have e2 : (px.take q).length = q := by rw [List.length_take]; omega
  have e3 : (px.take (q + 1)).length = q + 1 := by rw [List.length_take]; omega
  rw [e2, e3, List.set_append_right _ _ (by rw [List.length_append, e1, e2]; omega), List.length_append, e1, e2, Nat.sub_self, List.drop_eq_getElem_cons (show i + q < l.length by omega), List.set_cons_zero, List.take_succ_eq_append_getElem hq]
  simp only [List.append_assoc, List.singleton_append, Nat.add_assoc]
theorem putPix_length (l px : List Int) (i : Nat) (hi : i + px.length ≤ l.length) : (putPix l px i).length = l.length := by
  unfold putPix
  simp only [List.length_append, List.length_take, List.length_drop]
  omega
theorem putPix_nil (l : List Int) (i : Nat) : putPix l [] i = l := by unfold putPix; simp
theorem spec_setPixel.ev_l0 (W H p i : Nat) (l px : List Int) (x y : Nat) (hpx : px.length = p) (hl : i + p ≤ l.length) (hi : i ≤ 4096) (hp : p ≤ 4) (hw : wrap64 (wrap64 (wrap64 ((y : Int) * (W : Int)) + (x : Int)) * (p : Int)) = (i : Int)) (d : Nat) : ∀ q, q ≤ p → p - q = d →
    Ev (fun k => spec_setPixel.l0 k (x : Int) (y : Int) px (q : Int) (W : Int) (H : Int) (p : Int) (putPix l (px.take q) i)) (putPix l px i) := by
  induction d with
  | zero =>
    intro q hq hd
    refine Ev.step (fun k => by simp only [spec_setPixel.l0]; rfl) (evNeg (by clear hw; omega) (evRet ?_))
    rw [List.take_of_length_le (by clear hw; omega)]
  | succ d ih =>
    intro q hq hd
    have hn := ih (q + 1) (by clear hw ih; omega) (by clear hw ih; omega)
    clear ih
    have hlt : q < px.length := by clear hw; omega
    have hs := putPix_upto l px i q (by clear hw; omega) hlt
    have hle : (putPix l (px.take q) i).length = l.length := putPix_length _ _ _ (by rw [List.length_take]; clear hw; omega)
    have e : wrap64 ((i : Int) + (q : Int)) = ((i + q : Nat) : Int) := by rw [wrapIn (by clear hw; omega) (by clear hw; omega)]; rfl
    refine Ev.step (g := fun k => spec_setPixel.l0 k (x : Int) (y : Int) px (q : Int) (W : Int) (H : Int) (p : Int) (putPix l (px.take q) i)) (f := fun k => spec_setPixel.l0 k (x : Int) (y : Int) px ((q + 1 : Nat) : Int) (W : Int) (H : Int) (p : Int) (putPix l (px.take (q + 1)) i)) (fun k => ?_) hn
    simp only [spec_setPixel.l0]
    rw [hw, e]
    clear hw e hn
    rw [if_pos (show (q : Int) < (p : Int) by omega), if_pos (show (0 : Int) ≤ (q : Int) by omega), if_pos (show (q : Int) < (px.length : Int) by omega), if_pos (show (0 : Int) ≤ ((i + q : Nat) : Int) by omega), if_pos (show ((i + q : Nat) : Int) < ((putPix l (px.take q) i).length : Int) by omega), Int.toNat_natCast, rdN px q hlt, hs, wrapSucc q (by omega)]
theorem spec_setPixel.ev (W H p : Nat) (l px : List Int) (x y : Nat) (hpx : px.length = p) (hl : (y * W + x) * p + p ≤ l.length) (hW : W ≤ 16) (hp : p ≤ 4) (hx : x ≤ 15) (hy : y ≤ 15) :
    Ev (fun k => spec_setPixel.f k (W : Int) (H : Int) (p : Int) l (x : Int) (y : Int) px) (putPix l px ((y * W + x) * p)) := by
  have h2 : (y * W + x) * p ≤ 272 * 4 := Nat.mul_le_mul (by have : y * W ≤ 16 * 16 := Nat.mul_le_mul (by omega) hW; omega) hp
  have h := spec_setPixel.ev_l0 W H p ((y * W + x) * p) l px x y hpx hl (by omega) hp (place_wrap W p x y hW hp (by omega) (by omega)) p 0 (by omega) (by omega)
  rw [List.take_zero, putPix_nil] at h
  unfold spec_setPixel.f
  exact h
theorem pixels_len (f : Nat → Nat → List Int) (W H p : Nat) (hf : ∀ x y, x < W → y < H → (f x y).length = p) (n : Nat) (hn : n ≤ W * H) : (pixelsUpto f W n).length = n * p := by
  induction n with
  | zero => simp [pixelsUpto]
  | succ n ih =>
    have h1 := ih (by omega)
    have hW : 0 < W := by
      rcases Nat.eq_zero_or_pos W with h | h
      · subst h; omega
      · exact h
    unfold pixelsUpto at h1 ⊢
    rw [List.range_succ, List.flatMap_append, List.length_append, h1]
    have h2 := hf (n % W) (n / W) (Nat.mod_lt _ hW) (by rw [Nat.div_lt_iff_lt_mul hW, Nat.mul_comm]; omega)
    rw [List.flatMap_cons, List.flatMap_nil, List.append_nil, h2, Nat.succ_mul]
theorem row_lt {W H x y : Nat} (hx : x < W) (hy : y < H) : W * y + x < W * H := by
  have : W * (y + 1) ≤ W * H := Nat.mul_le_mul_left _ hy
  rw [Nat.mul_succ] at this
  omega
theorem pixels_split (f : Nat → Nat → List Int) (W H p : Nat) (hf : ∀ x y, x < W → y < H → (f x y).length = p) (x y : Nat) (hx : x < W) (hy : y < H) : ∃ A C, pixelsUpto f W (W * H) = A ++ (f x y ++ C) ∧ A.length = (y * W + x) * p := by
  have hlt := row_lt hx hy
  obtain ⟨r, hr⟩ : ∃ r, W * H = W * y + x + 1 + r := ⟨W * H - (W * y + x + 1), by omega⟩
  have hlen := pixels_len f W H p hf (W * y + x) (by omega)
  refine ⟨pixelsUpto f W (W * y + x), (List.range r).flatMap (fun i => f ((W * y + x + 1 + i) % W) ((W * y + x + 1 + i) / W)), ?_, by rw [hlen, Nat.mul_comm W y]⟩
  rw [hr, ← List.append_assoc, ← pixelsUpto_snoc f W x y hx]
  unfold pixelsUpto
  rw [List.range_add, List.flatMap_append, List.flatMap_map]
/-- A pixel of an image whose pixels are told. -/
theorem pixels_at (f : Nat → Nat → List Int) (W H p : Nat) (hf : ∀ x y, x < W → y < H → (f x y).length = p) (x y : Nat) (hx : x < W) (hy : y < H) : pixN W p (pixelsUpto f W (W * H)) x y = f x y := by
  obtain ⟨A, C, e, hA⟩ := pixels_split f W H p hf x y hx hy
  have hB := hf x y hx hy
  unfold pixN
  rw [e, ← hA, ← hB, List.take_append, List.take_of_length_le (show A.length ≤ A.length + (f x y).length by omega), show A.length + (f x y).length - A.length = (f x y).length by omega, List.take_append_of_le_length (Nat.le_refl _), List.take_length, List.drop_append_of_le_length (Nat.le_refl _), List.drop_length, List.nil_append]
theorem pixels_bytes (f : Nat → Nat → List Int) (W H : Nat) (hf : ∀ x y, x < W → y < H → ∀ z ∈ f x y, 0 ≤ z ∧ z ≤ 255) : ∀ z ∈ pixelsUpto f W (W * H), 0 ≤ z ∧ z ≤ 255 := by
  intro z hz
  unfold pixelsUpto at hz
  obtain ⟨i, hi, hm⟩ := List.mem_flatMap.1 hz
  rw [List.mem_range] at hi
  have hW : 0 < W := by
    rcases Nat.eq_zero_or_pos W with h | h
    · subst h; omega
    · exact h
  exact hf (i % W) (i / W) (Nat.mod_lt _ hW) (by rw [Nat.div_lt_iff_lt_mul hW, Nat.mul_comm]; exact hi) z hm
/-- An image whose pixels are told is valid. -/
theorem pixels_ok (f : Nat → Nat → List Int) (W H p : Nat) (hW : 1 ≤ W ∧ W ≤ 16) (hH : 1 ≤ H ∧ H ≤ 16) (hp : 1 ≤ p ∧ p ≤ 4) (hf : ∀ x y, x < W → y < H → (f x y).length = p) (hb : ∀ x y, x < W → y < H → ∀ z ∈ f x y, 0 ≤ z ∧ z ≤ 255) : ImgOk (W : Int) (H : Int) (p : Int) (pixelsUpto f W (W * H)) := by
  refine ⟨by omega, by omega, by omega, ?_, pixels_bytes f W H hb⟩
  rw [pixels_len f W H p hf _ (Nat.le_refl _)]
  push_cast
  rfl
theorem pixelsUpto_congr (f g : Nat → Nat → List Int) (W H : Nat) (h : ∀ x y, x < W → y < H → f x y = g x y) (n : Nat) (hn : n ≤ W * H) : pixelsUpto f W n = pixelsUpto g W n := by
  induction n with
  | zero => rfl
  | succ n ih =>
    have h1 := ih (by omega)
    have hW : 0 < W := by
      rcases Nat.eq_zero_or_pos W with h | h
      · subst h; omega
      · exact h
    unfold pixelsUpto at h1 ⊢
    rw [List.range_succ, List.flatMap_append, List.flatMap_append, h1, List.flatMap_cons, List.flatMap_cons, List.flatMap_nil, List.flatMap_nil, h (n % W) (n / W) (Nat.mod_lt _ hW) (by rw [Nat.div_lt_iff_lt_mul hW, Nat.mul_comm]; omega)]
theorem pixN_mem {W p : Nat} {l : List Int} {x y : Nat} {v : Int} (h : v ∈ pixN W p l x y) : v ∈ l := List.mem_of_mem_take (List.mem_of_mem_drop h)
/-- An image is all its pixels. -/
theorem pixels_self (W H p : Nat) (l : List Int) (hl : l.length = W * H * p) : pixelsUpto (pixN W p l) W (W * H) = l := by
  have key : ∀ n, n ≤ W * H → pixelsUpto (pixN W p l) W n = l.take (n * p) := by
    intro n
    induction n with
    | zero => intro _; simp [pixelsUpto]
    | succ n ih =>
      intro hn
      have h1 := ih (by omega)
      have h2 : (n + 1) * p ≤ W * H * p := Nat.mul_le_mul_right _ hn
      rw [Nat.succ_mul] at h2
      unfold pixelsUpto at h1 ⊢
      rw [List.range_succ, List.flatMap_append, h1, List.flatMap_cons, List.flatMap_nil, List.append_nil]
      unfold pixN
      rw [show n / W * W + n % W = n by rw [Nat.mul_comm]; exact Nat.div_add_mod n W, Nat.succ_mul]
      have h3 := List.take_append_drop (n * p) (l.take (n * p + p))
      rw [List.take_take, Nat.min_eq_left (by omega)] at h3
      exact h3
  rw [key _ (Nat.le_refl _), ← hl, List.take_length]
theorem pixels_put (f : Nat → Nat → List Int) (W H p : Nat) (hf : ∀ x y, x < W → y < H → (f x y).length = p) (px : List Int) (hpx : px.length = p) (x y : Nat) (hx : x < W) (hy : y < H) :
    putPix (pixelsUpto f W (W * H)) px ((y * W + x) * p) = pixelsUpto (fun u v => if u = x ∧ v = y then px else f u v) W (W * H) := by
  have hlt := row_lt hx hy
  obtain ⟨r, hr⟩ : ∃ r, W * H = W * y + x + 1 + r := ⟨W * H - (W * y + x + 1), by omega⟩
  have split : ∀ g : Nat → Nat → List Int, pixelsUpto g W (W * y + x + 1 + r) = pixelsUpto g W (W * y + x) ++ g x y ++ (List.range r).flatMap (fun i => g ((W * y + x + 1 + i) % W) ((W * y + x + 1 + i) / W)) := by
    intro g
    rw [← pixelsUpto_snoc g W x y hx]
    unfold pixelsUpto
    rw [List.range_add, List.flatMap_append, List.flatMap_map]
  have hlen := pixels_len f W H p hf (W * y + x) (by omega)
  have hfxy := hf x y hx hy
  rw [hr, split, split, if_pos ⟨rfl, rfl⟩]
  have e1 : pixelsUpto (fun u v => if u = x ∧ v = y then px else f u v) W (W * y + x) = pixelsUpto f W (W * y + x) := by
    unfold pixelsUpto
    rw [List.flatMap_def, List.flatMap_def]
    congr 1
    refine List.map_congr_left fun i hi => ?_
    rw [List.mem_range] at hi
    refine if_neg ?_
    rintro ⟨h1, h2⟩
    have := Nat.div_add_mod i W
    rw [h1, h2] at this
    omega
  have e2 : (List.range r).flatMap (fun i => if (W * y + x + 1 + i) % W = x ∧ (W * y + x + 1 + i) / W = y then px else f ((W * y + x + 1 + i) % W) ((W * y + x + 1 + i) / W)) = (List.range r).flatMap (fun i => f ((W * y + x + 1 + i) % W) ((W * y + x + 1 + i) / W)) := by
    rw [List.flatMap_def, List.flatMap_def]
    congr 1
    refine List.map_congr_left fun i hi => ?_
    refine if_neg ?_
    rintro ⟨h1, h2⟩
    have := Nat.div_add_mod (W * y + x + 1 + i) W
    rw [h1, h2] at this
    omega
  rw [e1, e2]
  generalize (List.range r).flatMap _ = C
  generalize pixelsUpto f W (W * y + x) = P at hlen ⊢
  generalize f x y = B at hfxy ⊢
  unfold putPix
  rw [show y * W + x = W * y + x by rw [Nat.mul_comm]]
  generalize (W * y + x) * p = k at hlen ⊢
  subst hlen
  rw [hpx, ← hfxy]
  simp only [List.append_assoc]
  rw [List.take_append_of_le_length (Nat.le_refl _), List.take_length, List.drop_append, List.drop_eq_nil_of_le (by omega), List.nil_append, show P.length + B.length - P.length = B.length by omega, List.drop_append_of_le_length (Nat.le_refl _), List.drop_length, List.nil_append]

theorem mask_again (W H p : Nat) (l q : List Int) (lr : List S59) (hi : ImgOk (W : Int) (H : Int) (p : Int) l) (hj : ImgOk (W : Int) (H : Int) (p : Int) q) (hl : l.length = W * H * p) (hq : q.length = W * H * p) (hv : Valid lr) (b1 : 1 ≤ W) (b2 : 1 ≤ H) (b3 : 1 ≤ p) (b4 : W ≤ 16) (b5 : H ≤ 16) (b6 : p ≤ 4) :
    ∃ U, impl_MaskImage.f (W : Int) (H : Int) (p : Int) l (W : Int) (H : Int) (p : Int) q lr = some ((W : Int), (H : Int), (p : Int), U, true) ∧ U.length ≤ 1024 ∧ U.length = W * H * p ∧ ImgOk (W : Int) (H : Int) (p : Int) U ∧ (∀ x y, x < W → y < H → pixN W p U x y = if gridF lr (16 * y + x) = true then pixN W p q x y else pixN W p l x y) ∧ U = pixelsUpto (maskF (W : Int) (p : Int) l q (gridF lr)) W (W * H) := by
  have e : ∀ x y, maskF (W : Int) (p : Int) l q (gridF lr) x y = if gridF lr (16 * y + x) = true then pixN W p q x y else pixN W p l x y := fun x y => by
    unfold maskF
    simp only [Int.toNat_natCast]
  have hf : ∀ x y, x < W → y < H → (maskF (W : Int) (p : Int) l q (gridF lr) x y).length = p := fun x y hx hy => by
    rw [e]
    split
    · exact pixN_length hx hy hq
    · exact pixN_length hx hy hl
  have hb : ∀ x y, x < W → y < H → ∀ z ∈ maskF (W : Int) (p : Int) l q (gridF lr) x y, 0 ≤ z ∧ z ≤ 255 := fun x y hx hy z hz => by
    rw [e] at hz
    split at hz
    · exact hj.2.2.2.2 z (pixN_mem hz)
    · exact hi.2.2.2.2 z (pixN_mem hz)
  have hu := pixels_ok _ W H p ⟨b1, b4⟩ ⟨b2, b5⟩ ⟨b3, b6⟩ hf hb
  refine ⟨_, ?_, hu.len.2, pixels_len _ W H p hf _ (Nat.le_refl _), hu, fun x y hx hy => by rw [pixels_at _ W H p hf x y hx hy, e], rfl⟩
  unfold impl_MaskImage.f
  rw [if_pos (show MaskOk (W : Int) (H : Int) (p : Int) l (W : Int) (H : Int) (p : Int) q lr from ⟨hi, hj, ⟨rfl, rfl, rfl⟩, hv⟩)]
  simp only [Int.toNat_natCast]
theorem image_ext (W H p : Nat) (l q : List Int) (hl : l.length = W * H * p) (hq : q.length = W * H * p) (h : ∀ x y, x < W → y < H → pixN W p l x y = pixN W p q x y) : l = q := by
  rw [← pixels_self W H p l hl, ← pixels_self W H p q hq]
  exact pixelsUpto_congr _ _ W H h _ (Nat.le_refl _)

theorem spec_copyImage.val (a b c : Int) (l : List Int) (h : l.length < 17592186044416) : spec_copyImage.f a b c l = some (a, b, c, l) := by
  unfold spec_copyImage.f
  rw [spec_copyInts.val l h]
  rfl

theorem inRange_val (a lo hi : Int) : spec_inRange.f a lo hi = some (decide (lo ≤ a ∧ a ≤ hi)) := by
  unfold spec_inRange.f
  split
  · rename_i h; simp [h]
  · rename_i h; simp [h]

/-- All numbers of a list lie in a range. -/
def allB (lo hi : Int) (l : List Int) : Bool := l.all fun x => decide (lo ≤ x ∧ x ≤ hi)
theorem allB_iff (lo hi : Int) (l : List Int) : allB lo hi l = true ↔ ∀ x ∈ l, lo ≤ x ∧ x ≤ hi := by
  unfold allB
  rw [List.all_eq_true]
  simp only [decide_eq_true_eq]
theorem spec_allIn.ev_l0 (l : List Int) (lo hi : Int) (hl : l.length ≤ 9223372036854775806) (d : Nat) : ∀ i, i ≤ l.length → l.length - i = d →
    Ev (fun k => spec_allIn.l0 k l lo hi (i : Int)) (allB lo hi (l.drop i)) := by
  induction d with
  | zero =>
    intro i hi' hd
    refine Ev.step (fun k => by simp only [spec_allIn.l0]; rfl) (evNeg (by omega) (evRet ?_))
    rw [List.drop_of_length_le (by omega)]
    rfl
  | succ d ih =>
    intro i hi' hd
    have hw : wrap64 ((i : Int) + 1) = ((i + 1 : Nat) : Int) := wrapSucc i (by omega)
    refine Ev.step (fun k => by simp only [spec_allIn.l0, hw]; rfl) (evPos (by omega) (evPos (by omega) ?_))
    rw [rdN l i (by omega), drop_cons_ l i (by omega)]
    have hr : spec_inRange.f l[i] lo hi = some (decide (lo ≤ l[i] ∧ l[i] ≤ hi)) := by
      unfold spec_inRange.f
      split
      · rename_i h; simp [h]
      · rename_i h; simp [h]
    have e : allB lo hi (l[i] :: l.drop (i + 1)) = (decide (lo ≤ l[i] ∧ l[i] ≤ hi) && allB lo hi (l.drop (i + 1))) := by
      unfold allB
      rw [List.all_cons]
    rw [e]
    refine evFix hr (evIf (fun h => ?_) (fun h => evRet ?_))
    · rw [h, Bool.true_and]
      exact ih (i + 1) (by omega) (by omega)
    · rw [Bool.eq_false_iff.mpr h, Bool.false_and]
theorem spec_allIn.ev (l : List Int) (lo hi : Int) (hl : l.length ≤ 9223372036854775806) : Ev (fun k => spec_allIn.f k l lo hi) (allB lo hi l) := by
  have := spec_allIn.ev_l0 l lo hi hl l.length 0 (by omega) (by omega)
  unfold spec_allIn.f
  simpa using this

theorem spec_validShape.val (a b c : Int) : spec_validShape.f a b c = some (decide ((1 ≤ a ∧ a ≤ 16) ∧ (1 ≤ b ∧ b ≤ 16) ∧ (1 ≤ c ∧ c ≤ 4))) := by
  unfold spec_validShape.f
  rw [inRange_val, inRange_val, inRange_val]
  simp only [Option.bind_some, decide_eq_true_eq]
  by_cases h1 : 1 ≤ a ∧ a ≤ 16
  · rw [if_pos h1]
    by_cases h2 : 1 ≤ b ∧ b ≤ 16
    · rw [if_pos h2]
      congr 1
      rw [Bool.eq_iff_iff]
      simp only [decide_eq_true_eq]
      exact ⟨fun h => ⟨h1, h2, h⟩, fun h => h.2.2⟩
    · rw [if_neg h2, decide_eq_false (fun h => h2 h.2.1)]
  · rw [if_neg h1, decide_eq_false (fun h => h1 h.1)]
theorem allB_bytes (l : List Int) : allB 0 255 l = decide (∀ x ∈ l, 0 ≤ x ∧ x ≤ 255) := by
  rw [Bool.eq_iff_iff, allB_iff, decide_eq_true_eq]
theorem spec_validImage.ev (a b c : Int) (l : List Int) (hl : l.length ≤ 9223372036854775806) : Ev (fun k => spec_validImage.f k a b c l) (decide (ImgOk a b c l)) := by
  unfold spec_validImage.f
  refine evFix (spec_validShape.val a b c) ?_
  by_cases h : (1 ≤ a ∧ a ≤ 16) ∧ (1 ≤ b ∧ b ≤ 16) ∧ (1 ≤ c ∧ c ≤ 4)
  · refine evPos (decide_eq_true h) ?_
    rw [shape_wrap h.1 h.2.1 h.2.2]
    by_cases h2 : (l.length : Int) = a * b * c
    · refine evPos h2 ?_
      have h3 := spec_allIn.ev l 0 255 hl
      refine evBind h3 (evRet ?_)
      rw [allB_bytes, Bool.eq_iff_iff]
      simp only [decide_eq_true_eq]
      exact ⟨fun h3 => ⟨h.1, h.2.1, h.2.2, h2, h3⟩, fun hh => hh.2.2.2.2⟩
    · exact evNeg h2 (evRet (decide_eq_false (fun hh : ImgOk a b c l => h2 hh.2.2.2.1)).symm)
  · exact evNeg (by rw [decide_eq_false h]; simp) (evRet (decide_eq_false (fun hh : ImgOk a b c l => h ⟨hh.1, hh.2.1, hh.2.2.1⟩)).symm)

theorem spec_onImage.val (W H : Nat) (p : Int) (l : List Int) (x y : Nat) (hW0 : 1 ≤ W) (hH0 : 1 ≤ H) (hW : W ≤ 16) (hH : H ≤ 16) : spec_onImage.f (W : Int) (H : Int) p l (x : Int) (y : Int) = some (decide (x < W ∧ y < H)) := by
  unfold spec_onImage.f
  rw [wrapIn (x := (W : Int) - 1) (by omega) (by omega), wrapIn (x := (H : Int) - 1) (by omega) (by omega), inRange_val, inRange_val]
  simp only [Option.bind_some, decide_eq_true_eq]
  by_cases h : x < W
  · rw [if_pos (by omega)]
    congr 1
    rw [Bool.eq_iff_iff]
    simp only [decide_eq_true_eq]
    omega
  · rw [if_neg (by omega), decide_eq_false (fun hh => h hh.1)]
def paintF (base new : Nat → Nat → List Int) (g : Nat → Bool) (x y : Nat) : List Int := if g (16 * y + x) = true then new x y else base x y
def paintL (base new : Nat → Nat → List Int) (W H : Nat) (g : Nat → Bool) : List Int := pixelsUpto (paintF base new g) W (W * H)
theorem paintF_len {base new : Nat → Nat → List Int} {W H p : Nat} (hb : ∀ x y, x < W → y < H → (base x y).length = p) (hn : ∀ x y, x < W → y < H → (new x y).length = p) (g : Nat → Bool) (x y : Nat) (hx : x < W) (hy : y < H) : (paintF base new g x y).length = p := by
  unfold paintF
  split
  · exact hn x y hx hy
  · exact hb x y hx hy
theorem paintL_len {base new : Nat → Nat → List Int} {W H p : Nat} (hb : ∀ x y, x < W → y < H → (base x y).length = p) (hn : ∀ x y, x < W → y < H → (new x y).length = p) (g : Nat → Bool) : (paintL base new W H g).length = W * H * p :=
  pixels_len _ W H p (paintF_len hb hn g) _ (Nat.le_refl _)
theorem paintL_congr (base new : Nat → Nat → List Int) {W H : Nat} (hW : W ≤ 16) (hH : H ≤ 16) {f g : Nat → Bool} (h : ∀ j, j < 256 → f j = g j) : paintL base new W H f = paintL base new W H g := by
  unfold paintL
  refine pixelsUpto_congr _ _ W H (fun x y hx hy => ?_) _ (Nat.le_refl _)
  unfold paintF
  rw [h (16 * y + x) (by omega)]
theorem paint_put {base new : Nat → Nat → List Int} {W H p : Nat} (hW : W ≤ 16) (hb : ∀ x y, x < W → y < H → (base x y).length = p) (hn : ∀ x y, x < W → y < H → (new x y).length = p) (g : Nat → Bool) (x Y : Nat) (hx : x < W) (hY : Y < H) :
    putPix (paintL base new W H g) (new x Y) ((Y * W + x) * p) = paintL base new W H (fun j => if j = 16 * Y + x then true else g j) := by
  unfold paintL
  rw [pixels_put (paintF base new g) W H p (paintF_len hb hn g) (new x Y) (hn x Y hx hY) x Y hx hY]
  refine pixelsUpto_congr _ _ W H (fun u v hu hv => ?_) _ (Nat.le_refl _)
  unfold paintF
  by_cases e : u = x ∧ v = Y
  · obtain ⟨rfl, rfl⟩ := e
    simp
  · have e2 : ¬ (16 * v + u = 16 * Y + x) := by omega
    simp only [if_neg e, if_neg e2]
theorem paint_out (base new : Nat → Nat → List Int) {W H : Nat} (hW : W ≤ 16) (g : Nat → Bool) (x Y : Nat) (hx : x < 16) (h : ¬ (x < W ∧ Y < H)) : paintL base new W H g = paintL base new W H (fun j => if j = 16 * Y + x then true else g j) := by
  unfold paintL
  refine pixelsUpto_congr _ _ W H (fun u v hu hv => ?_) _ (Nat.le_refl _)
  unfold paintF
  have e2 : ¬ (16 * v + u = 16 * Y + x) := fun e => h (by have : u = x ∧ v = Y := by omega
                                                          rw [← this.1, ← this.2]; exact ⟨hu, hv⟩)
  simp only [if_neg e2]
theorem paint_none (base new : Nat → Nat → List Int) (W H : Nat) : paintL base new W H (fun _ => false) = pixelsUpto base W (W * H) := by
  unfold paintL
  refine pixelsUpto_congr _ _ W H (fun u v hu hv => ?_) _ (Nat.le_refl _)
  unfold paintF
  simp

theorem rdRunM (l : List S59) (k : Nat) (h : k < l.length) : rd_T59 l (k : Int) = l[k] := by
  simp [rd_T59, List.getD_eq_getElem?_getD, List.getElem?_eq_getElem h]

theorem spec_validRuns.ev_l0 (l : List S59) (hl : l.length ≤ 9223372036854775807) (d : Nat) : ∀ i, i ≤ l.length → l.length - i = d →
    Ev (fun k => spec_validRuns.l0 k l (i : Int)) (decide (∀ j, j < l.length → i ≤ j → okAt l j)) := by
  induction d with
  | zero =>
    intro i hi hd
    refine Ev.step (fun k => by simp only [spec_validRuns.l0]; rfl) (evNeg (by omega) (evRet ?_))
    rw [eq_comm, decide_eq_true_eq]
    intro j h1 h2
    omega
  | succ d ih =>
    intro i hi hd
    have hlt : i < l.length := by omega
    have hnot : ¬ okAt l i → decide (∀ j, j < l.length → i ≤ j → okAt l j) = false := fun h => by
      rw [decide_eq_false_iff_not]
      exact fun hh => h (hh i hlt (Nat.le_refl _))
    have hyes : okAt l i → decide (∀ j, j < l.length → i ≤ j → okAt l j) = decide (∀ j, j < l.length → i + 1 ≤ j → okAt l j) := fun h => by
      refine decide_eq_decide.mpr ⟨fun hh j h1 h2 => hh j h1 (by omega), fun hh j h1 h2 => ?_⟩
      rcases Nat.eq_or_lt_of_le h2 with h3 | h3
      · subst h3
        exact h
      · exact hh j h1 h3
    have hbad : ∀ a b c, ¬ okAt l i → Ev (fun k => spec_validRuns.j1 k l (i : Int) true a b c) (decide (∀ j, j < l.length → i ≤ j → okAt l j)) := fun a b c h =>
      Ev.step (fun k => by simp only [spec_validRuns.j1]; rfl) (evPos (by trivial) (evRet (hnot h).symm))
    have hw : wrap64 ((i : Int) + 1) = ((i + 1 : Nat) : Int) := wrapSucc i (by omega)
    refine Ev.step (fun k => by simp only [spec_validRuns.l0]; rfl) ?_
    refine evPos (by omega) (evPos (by omega) (evFix (inRange_val _ _ _) (evIf (fun h1 => evFix (inRange_val _ _ _) (evIf (fun h2 => evFix (inRange_val _ _ _) ?_) (fun h2 => hbad _ _ _ fun h => ?_))) (fun h1 => hbad _ _ _ fun h => ?_))))
    · rw [decide_eq_true_eq] at h1 h2
      rw [wrapIn (x := (rd_T59 l (i : Int)).f1 + 1) (by omega) (by omega)]
      by_cases h3 : (rd_T59 l (i : Int)).f1 + 1 ≤ (rd_T59 l (i : Int)).f2 ∧ (rd_T59 l (i : Int)).f2 ≤ 16
      · rw [decide_eq_true h3]
        have hr : okRun (rd_T59 l (i : Int)) := by unfold okRun; omega
        refine Ev.step (fun k => by simp only [spec_validRuns.j1, hw]; rfl) ?_
        refine evNeg (by first | exact not_false | simp) (evIf (fun h6 => ?_) (fun h6 => ?_))
        · have hw2 : wrap64 ((i : Int) - 1) = ((i - 1 : Nat) : Int) := by unfold wrap64; omega
          rw [hw2]
          refine evPos (by omega) (evPos (by omega) (evIf (fun h7 => evRet (hnot fun h => ?_).symm) (fun h7 => evIf (fun h8 => evIf (fun h9 => evRet (hnot fun h => ?_).symm) (fun h9 => ?_)) (fun h8 => ?_))))
          · have := h.2
            unfold before at this
            omega
          · have := h.2
            unfold before at this
            omega
          · rw [hyes ⟨hr, .inr (by unfold before; omega)⟩]
            exact ih (i + 1) (by omega) (by omega)
          · rw [hyes ⟨hr, .inr (by unfold before; omega)⟩]
            exact ih (i + 1) (by omega) (by omega)
        · rw [hyes ⟨hr, .inl (by omega)⟩]
          exact ih (i + 1) (by omega) (by omega)
      · rw [decide_eq_false h3]
        refine hbad _ _ _ fun h => h3 ?_
        have := h.1
        unfold okRun at this
        omega
    · rw [decide_eq_true_eq] at h2
      have := h.1
      unfold okRun at this
      omega
    · rw [decide_eq_true_eq] at h1
      have := h.1
      unfold okRun at this
      omega
theorem spec_validRuns.ev (l : List S59) (hl : l.length ≤ 9223372036854775807) : Ev (fun k => spec_validRuns.f k l) (decide (Valid l)) := by
  have h := spec_validRuns.ev_l0 l hl l.length 0 (by omega) (by omega)
  unfold spec_validRuns.f
  have e : decide (∀ j, j < l.length → 0 ≤ j → okAt l j) = decide (Valid l) := decide_eq_decide.mpr (by rw [valid_iff]; exact ⟨fun h j hj => h j hj (Nat.zero_le _), fun h j hj _ => h j hj⟩)
  rw [e] at h
  exact h

theorem spec_MaskImage.ev_l1 (W H p : Nat) (l : List Int) (q : List Int) (lr : List S59) (hl : l.length = W * H * p) (hW0 : 1 ≤ W) (hH0 : 1 ≤ H) (hW : W ≤ 16) (hH : H ≤ 16) (hp : p ≤ 4) (hq : q.length = W * H * p) (i : Nat) (hi : i < lr.length) (r : S59) (hr : rd_T59 lr (i : Int) = r) (R : Int × Int × Int × List Int × Bool) (g : Nat → Bool)
    (hR : Ev (fun k => spec_MaskImage.l0 k lr (wrap64 ((i : Int) + 1)) W H p l W H p q W H p (paintL (pixN W p l) (pixN W p q) W H (fun j => g j || inRun r j))) R) (Y F T : Nat) (hY : r.f0 = Y) (hF : r.f1 = F) (hT : r.f2 = T) (hY16 : Y < 16) (hT16 : T ≤ 16) (d : Nat) : ∀ x, F ≤ x → x ≤ T → T - x = d →
    Ev (fun k => spec_MaskImage.l1 k lr (i : Int) (x : Int) W H p l W H p q W H p (paintL (pixN W p l) (pixN W p q) W H (fun j => g j || (decide (j / 16 = Y) && decide (F ≤ j % 16) && decide (j % 16 < x))))) R := by
  have hb : ∀ x y, x < W → y < H → (pixN W p l x y).length = p := fun x y hx hy => pixN_length hx hy hl
  have hn : ∀ x y, x < W → y < H → ((pixN W p q) x y).length = p := fun x y hx hy => pixN_length hx hy hq
  induction d with
  | zero =>
    intro x hx1 hx2 hd
    obtain rfl : x = T := by omega
    refine Ev.step (fun k => by simp only [spec_MaskImage.l1, hr, hT]; rfl) (evPos (by omega) (evPos (by omega) (evNeg (by omega) ?_)))
    rw [paintL_congr (f := fun j => g j || (decide (j / 16 = Y) && decide (F ≤ j % 16) && decide (j % 16 < x))) (g := fun j => g j || inRun r j) (pixN W p l) (pixN W p q) hW hH (fun j hj => by
      congr 1
      rw [Bool.eq_iff_iff]
      unfold inRun
      simp only [Bool.and_eq_true, decide_eq_true_eq]
      rw [hY, hF, hT]
      omega)]
    exact hR
  | succ d ih =>
    intro x hx1 hx2 hd
    have h2 := ih (x + 1) (by omega) (by omega) (by omega)
    have ho := spec_onImage.val W H (p : Int) l x Y hW0 hH0 hW hH
    have e := paintL_congr (f := fun j => if j = 16 * Y + x then true else g j || (decide (j / 16 = Y) && decide (F ≤ j % 16) && decide (j % 16 < x))) (g := fun j => g j || (decide (j / 16 = Y) && decide (F ≤ j % 16) && decide (j % 16 < x + 1))) (pixN W p l) (pixN W p q) hW hH (fun j hj => by
      by_cases e : j = 16 * Y + x
      · rw [if_pos e, decide_eq_true (show j / 16 = Y by omega), decide_eq_true (show F ≤ j % 16 by omega), decide_eq_true (show j % 16 < x + 1 by omega)]
        simp
      · rw [if_neg e]
        congr 1
        rw [Bool.eq_iff_iff]
        simp only [Bool.and_eq_true, decide_eq_true_eq]
        omega)
    rw [← e] at h2
    refine Ev.step (fun k => by simp only [spec_MaskImage.l1, hr, hY, hT, wrapSucc x (by omega)]; rfl) (evPos (by omega) (evPos (by omega) (evPos (by omega) (evFix ho (evIf (fun hin => ?_) (fun hin => ?_))))))
    · rw [decide_eq_true_eq] at hin
      have hs := spec_setPixel.ev W H p (paintL (pixN W p l) (pixN W p q) W H (fun j => g j || (decide (j / 16 = Y) && decide (F ≤ j % 16) && decide (j % 16 < x)))) ((pixN W p q) x Y) x Y (hn x Y hin.1 hin.2) (by rw [paintL_len hb hn]; exact pix_lt hin.1 hin.2) hW hp (by omega) (by omega)
      rw [paint_put hW hb hn _ x Y hin.1 hin.2] at hs
      exact evFix (spec_pixelAt.val W H p q x Y hq hW hH hp hin.1 hin.2) (evBind hs h2)
    · rw [decide_eq_true_eq] at hin
      rw [paint_out (pixN W p l) (pixN W p q) hW (fun j => g j || (decide (j / 16 = Y) && decide (F ≤ j % 16) && decide (j % 16 < x))) x Y (by omega) hin]
      exact h2
theorem spec_MaskImage.ev_l0 (W H p : Nat) (l : List Int) (q : List Int) (lr : List S59) (hl : l.length = W * H * p) (hW0 : 1 ≤ W) (hH0 : 1 ≤ H) (hW : W ≤ 16) (hH : H ≤ 16) (hp : p ≤ 4) (hq : q.length = W * H * p) (hok : RunsOk lr) (hlr : lr.length ≤ 9223372036854775806) (d : Nat) : ∀ i, i ≤ lr.length → lr.length - i = d →
    Ev (fun k => spec_MaskImage.l0 k lr (i : Int) W H p l W H p q W H p (paintL (pixN W p l) (pixN W p q) W H (gridF (lr.take i)))) ((W : Int), (H : Int), (p : Int), (paintL (pixN W p l) (pixN W p q) W H (gridF lr)), true) := by
  induction d with
  | zero =>
    intro i hi hd
    refine Ev.step (fun k => by simp only [spec_MaskImage.l0]; rfl) (evNeg (by omega) (evRet ?_))
    rw [List.take_of_length_le (by omega)]
  | succ d ih =>
    intro i hi hd
    have hlt : i < lr.length := by omega
    obtain ⟨h0, h1, h2, h3, h4⟩ := hok lr[i] (List.getElem_mem hlt)
    have hr : rd_T59 lr (i : Int) = lr[i] := rdRunM lr i hlt
    have hF : lr[i].f1 = ((lr[i].f1.toNat : Nat) : Int) := by omega
    have hnext := ih (i + 1) (by omega) (by omega)
    have e0 := paintL_congr (f := gridF (lr.take (i + 1))) (g := fun j => gridF (lr.take i) j || inRun lr[i] j) (pixN W p l) (pixN W p q) hW hH (fun j _ => by rw [take_snocN lr i hlt, gridF_snoc])
    rw [e0, ← wrapSucc i (by omega)] at hnext
    generalize lr[i] = r at *
    have h := spec_MaskImage.ev_l1 W H p l q lr hl hW0 hH0 hW hH hp hq i hlt r hr _ (gridF (lr.take i)) hnext r.f0.toNat r.f1.toNat r.f2.toNat (by omega) hF (by omega) (by omega) (by omega) _ r.f1.toNat (Nat.le_refl _) (by omega) rfl
    rw [← hF] at h
    refine Ev.step (fun k => by simp only [spec_MaskImage.l0, hr]; rfl) (evPos (by omega) (evPos (by omega) ?_))
    rw [paintL_congr (f := fun j => gridF (lr.take i) j || (decide (j / 16 = r.f0.toNat) && decide (r.f1.toNat ≤ j % 16) && decide (j % 16 < r.f1.toNat))) (g := gridF (lr.take i)) (pixN W p l) (pixN W p q) hW hH (fun j hj => by
      by_cases e1 : r.f1.toNat ≤ j % 16
      · rw [decide_eq_false (show ¬ j % 16 < r.f1.toNat by omega)]
        simp
      · rw [decide_eq_false e1]
        simp)] at h
    exact h
theorem spec_sameShape.ev (a b c : Int) (l : List Int) (a' b' c' : Int) (q : List Int) (hl : l.length ≤ 9223372036854775806) (hq : q.length ≤ 9223372036854775806) : Ev (fun k => spec_sameShape.f k a b c l a' b' c' q) (decide (ImgOk a b c l ∧ ImgOk a' b' c' q ∧ a = a' ∧ b = b' ∧ c = c')) := by
  unfold spec_sameShape.f
  refine evBind (spec_validImage.ev a b c l hl) (evIf (fun h1 => evBind (spec_validImage.ev a' b' c' q hq) (evIf (fun h2 => evIf (fun h3 => evIf (fun h4 => evRet ?_) (fun h4 => evRet ?_)) (fun h3 => evRet ?_)) (fun h2 => evRet ?_))) (fun h1 => evRet ?_))
  · rw [decide_eq_true_eq] at h1 h2
    rw [Bool.eq_iff_iff, decide_eq_true_eq, beq_iff_eq]
    exact ⟨fun h => ⟨h1, h2, h3, h4, h⟩, fun h => h.2.2.2.2⟩
  · exact (decide_eq_false (fun h => h4 h.2.2.2.1)).symm
  · exact (decide_eq_false (fun h => h3 h.2.2.1)).symm
  · rw [decide_eq_true_eq] at h2
    exact (decide_eq_false (fun h => h2 h.2.1)).symm
  · rw [decide_eq_true_eq] at h1
    exact (decide_eq_false (fun h => h1 h.1)).symm
theorem spec_MaskImage.ev (a b c : Int) (l : List Int) (a' b' c' : Int) (q : List Int) (lr : List S59) (hl : l.length ≤ 9223372036854775806) (hq : q.length ≤ 9223372036854775806) (hlr : lr.length ≤ 9223372036854775806) : Ev (fun k => spec_MaskImage.f k a b c l a' b' c' q lr) (if MaskOk a b c l a' b' c' q lr then (a, b, c, pixelsUpto (maskF a c l q (gridF lr)) a.toNat (a.toNat * b.toNat), true) else (0, 0, 0, [], false)) := by
  have hno : ¬ MaskOk a b c l a' b' c' q lr → ∀ t, t = true → Ev (fun k => spec_MaskImage.j0 k lr t a b c l a' b' c' q) (if MaskOk a b c l a' b' c' q lr then (a, b, c, pixelsUpto (maskF a c l q (gridF lr)) a.toNat (a.toNat * b.toNat), true) else (0, 0, 0, [], false)) := fun h t ht => by
    subst ht
    rw [if_neg h]
    exact Ev.step (fun k => by simp only [spec_MaskImage.j0]; rfl) (evPos (by trivial) (evRet rfl))
  unfold spec_MaskImage.f
  refine evBind (spec_sameShape.ev a b c l a' b' c' q hl hq) (evIf (fun h1 => evBind (spec_validRuns.ev lr (by omega)) ?_) (fun h1 => ?_))
  · rw [decide_eq_true_eq] at h1
    obtain ⟨h1, h2, rfl, rfl, rfl⟩ := h1
    by_cases h4 : Valid lr
    · rw [decide_eq_true h4, if_pos (show MaskOk a b c l a b c q lr from ⟨h1, h2, ⟨rfl, rfl, rfl⟩, h4⟩)]
      refine Ev.step (fun k => by simp only [spec_MaskImage.j0]; rfl) (evNeg (by simp) (evFix (spec_copyImage.val a b c l (by have := h1.len; omega)) ?_))
      have hq2 := h2.2.2.2.1
      obtain ⟨W, H, p, rfl, rfl, rfl, hll, b1, b2, b3, b4, b5, b6⟩ := h1.nats
      have hqq : q.length = W * H * p := by
        have e : ((W * H * p : Nat) : Int) = (W : Int) * (H : Int) * (p : Int) := by push_cast; rfl
        omega
      have h := spec_MaskImage.ev_l0 W H p l q lr hll b1 b2 b4 b5 b6 hqq h4.1 hlr lr.length 0 (by omega) (by omega)
      rw [paintL_congr (f := gridF (lr.take 0)) (g := fun _ => false) (pixN W p l) (pixN W p q) b4 b5 (fun j _ => by rw [List.take_zero, gridF_nil]), paint_none, pixels_self W H p l hll] at h
      simp only [Int.toNat_natCast]
      have e : pixelsUpto (maskF (W : Int) (p : Int) l q (gridF lr)) W (W * H) = paintL (pixN W p l) (pixN W p q) W H (gridF lr) := by
        unfold paintL
        refine pixelsUpto_congr _ _ W H (fun x y hx hy => ?_) _ (Nat.le_refl _)
        unfold maskF paintF
        simp only [Int.toNat_natCast]
      rw [e]
      exact h
    · rw [decide_eq_false h4]
      exact hno (fun h => h4 h.2.2.2) _ rfl
  · rw [decide_eq_true_eq] at h1
    exact hno (fun h => h1 ⟨h.1, h.2.1, h.2.2.1⟩) true rfl

theorem start_of (f : Nat → Bool) (y : Nat) (c : Nat) (hc : c < 16) (hf : f (16 * y + c) = true) : ∃ a, a ≤ c ∧ startB f (16 * y + a) = true ∧ ∀ i, a ≤ i → i ≤ c → f (16 * y + i) = true := by
  induction c with
  | zero =>
    refine ⟨0, Nat.le_refl _, ?_, fun i _ h => ?_⟩
    · unfold startB
      rw [hf, decide_eq_true (show (16 * y + 0) % 16 = 0 by omega)]
      rfl
    · obtain rfl : i = 0 := by omega
      exact hf
  | succ c ih =>
    cases hp : f (16 * y + c) with
    | true =>
      obtain ⟨a, h1, h2, h3⟩ := ih (by omega) hp
      refine ⟨a, by omega, h2, fun i h4 h5 => ?_⟩
      rcases Nat.lt_or_ge c i with h | h
      · obtain rfl : i = c + 1 := by omega
        exact hf
      · exact h3 i h4 h
    | false =>
      refine ⟨c + 1, Nat.le_refl _, ?_, fun i h4 h5 => ?_⟩
      · unfold startB
        rw [hf, show 16 * y + (c + 1) - 1 = 16 * y + c by omega, hp]
        simp
      · obtain rfl : i = c + 1 := by omega
        exact hf
theorem mem_runsL (f : Nat → Bool) (r : S59) : r ∈ runsL f ↔ ∃ s, s < 256 ∧ startB f s = true ∧ r = ⟨(s / 16 : Nat), (s % 16 : Nat), (endOf f (s / 16) (s % 16) : Nat)⟩ := by
  unfold runsL runsUpto
  rw [List.mem_filterMap]
  constructor
  · rintro ⟨s, hs, h⟩
    unfold runAt at h
    split at h
    · rename_i hst
      exact ⟨s, by simpa using hs, hst, (Option.some.inj h).symm⟩
    · cases h
  · rintro ⟨s, hs, hst, rfl⟩
    exact ⟨s, by simpa using hs, by unfold runAt; rw [if_pos hst]⟩
theorem start_true {f : Nat → Bool} {s : Nat} (h : startB f s = true) : f s = true ∧ (s % 16 = 0 ∨ f (s - 1) = false) := by
  unfold startB at h
  simp only [Bool.and_eq_true, Bool.or_eq_true, decide_eq_true_eq, Bool.not_eq_true'] at h
  exact h
theorem gridF_runsL (f : Nat → Bool) (i : Nat) (hi : i < 256) : gridF (runsL f) i = f i := by
  rw [Bool.eq_iff_iff]
  unfold gridF
  rw [List.any_eq_true]
  constructor
  · rintro ⟨r, hr, hin⟩
    obtain ⟨s, hs, hst, rfl⟩ := (mem_runsL f r).1 hr
    unfold inRun at hin
    simp only [Bool.and_eq_true, decide_eq_true_eq] at hin
    obtain ⟨⟨h1, h2⟩, h3⟩ := hin
    have := (endOf_facts f (s / 16) (16 - s % 16) (s % 16) (by omega) rfl).2.2.1 (i % 16) (by omega) (by omega)
    rwa [show 16 * (s / 16) + i % 16 = i by omega] at this
  · intro hf
    obtain ⟨a, h1, h2, h3⟩ := start_of f (i / 16) (i % 16) (by omega) (by rwa [show 16 * (i / 16) + i % 16 = i by omega])
    refine ⟨⟨((16 * (i / 16) + a) / 16 : Nat), ((16 * (i / 16) + a) % 16 : Nat), (endOf f ((16 * (i / 16) + a) / 16) ((16 * (i / 16) + a) % 16) : Nat)⟩, (mem_runsL f _).2 ⟨_, by omega, h2, rfl⟩, ?_⟩
    have e1 : (16 * (i / 16) + a) / 16 = i / 16 := by omega
    have e2 : (16 * (i / 16) + a) % 16 = a := by omega
    rw [e1, e2]
    have hlt : i % 16 < endOf f (i / 16) a := by
      obtain ⟨g1, g2, g3, g4⟩ := endOf_facts f (i / 16) (16 - a) a (by omega) rfl
      rcases Nat.lt_or_ge (i % 16) (endOf f (i / 16) a) with h | h
      · exact h
      · have := h3 (endOf f (i / 16) a) g1 h
        rw [g4 (by omega)] at this
        cases this
    unfold inRun
    simp only [Bool.and_eq_true, decide_eq_true_eq]
    exact ⟨⟨by trivial, by omega⟩, by omega⟩
theorem runsL_valid (f : Nat → Bool) : Valid (runsL f) := by
  constructor
  · intro r hr
    obtain ⟨s, hs, hst, rfl⟩ := (mem_runsL f r).1 hr
    have h := start_true hst
    have hgt := endOf_gt f (s / 16) (s % 16) (by omega) (by rw [show 16 * (s / 16) + s % 16 = s by omega]; exact h.1)
    have hle := (endOf_facts f (s / 16) (16 - s % 16) (s % 16) (by omega) rfl).2.1
    unfold okRun
    simp only []
    omega
  · unfold runsL runsUpto
    rw [List.pairwise_filterMap]
    refine List.Pairwise.imp ?_ List.pairwise_lt_range
    intro s t hlt a ha b hb
    unfold runAt at ha hb
    split at ha
    · split at hb
      · rename_i hs ht
        obtain rfl := Option.some.inj ha
        obtain rfl := Option.some.inj hb
        unfold before
        simp only []
        by_cases hrow : s / 16 = t / 16
        · right
          refine ⟨by omega, ?_⟩
          have h1 := start_true ht
          have h2 := h1.2
          rcases h2 with h2 | h2
          · omega
          · obtain ⟨g1, g2, g3, g4⟩ := endOf_facts f (s / 16) (16 - s % 16) (s % 16) (by omega) rfl
            rcases Nat.lt_or_ge (endOf f (s / 16) (s % 16)) (t % 16) with h3 | h3
            · omega
            · have := g3 (t % 16 - 1) (by omega) (by omega)
              rw [show 16 * (s / 16) + (t % 16 - 1) = t - 1 by omega, h2] at this
              cases this
        · left
          omega
      · cases hb
    · cases ha
/-- A code that a reader reads. -/
def CodeOk (b : List Int) : Prop := b.length ≤ 2000 ∧ ∀ x ∈ b, 0 ≤ x ∧ x ≤ 255
theorem code_rd (b : List Int) (h : CodeOk b) (i : Int) (h0 : 0 ≤ i) (h1 : i < b.length) : 0 ≤ rd b i ∧ rd b i ≤ 255 := by
  obtain ⟨n, rfl⟩ := Int.eq_ofNat_of_zero_le h0
  rw [rdN b n (by omega)]
  exact h.2 _ (List.getElem_mem _)
theorem xor_nonneg (a b : Int) (ha : 0 ≤ a) (ha1 : a < 4611686018427387904) (hb : 0 ≤ b) (hb1 : b < 4611686018427387904) : 0 ≤ Go.bits .xor .i64 a b := by
  obtain ⟨n, rfl⟩ := Int.eq_ofNat_of_zero_le ha
  obtain ⟨m, rfl⟩ := Int.eq_ofNat_of_zero_le hb
  have hx : n ^^^ m < 2 ^ 62 := Nat.xor_lt_two_pow (by omega) (by omega)
  have e : Go.bits .xor .i64 (n : Int) (m : Int) = ((n ^^^ m : Nat) : Int) := by
    have hp : (2 : Nat) ^ IntKind.i64.bits = 18446744073709551616 := by decide
    have ha' : n % 2 ^ IntKind.i64.bits = n := Nat.mod_eq_of_lt (by omega)
    have hb' : m % 2 ^ IntKind.i64.bits = m := Nat.mod_eq_of_lt (by omega)
    simp only [bits, BitVec.ofInt_natCast, BitVec.toNat_xor, BitVec.toNat_ofNat, ha', hb']
    rw [IntKind.wrap_i64]
    omega
  rw [e]
  omega
theorem spec_reader_pick.ev (b : List Int) (h : CodeOk b) (p n : Int) (hp0 : 0 ≤ p) (hp1 : p < 1000000000) (hn : n ≤ 1000000) : ∃ v, Ev (fun k => spec_reader_pick.f k b p n) (v, p + 1) ∧ 0 ≤ v ∧ (v < n ∨ v = 0) := by
  have hw : wrap64 (p + 1) = p + 1 := wrapIn (by omega) (by omega)
  have hw1 : wrap64 (p + 1 - 1) = p := by rw [wrapIn (by omega) (by omega)]; omega
  unfold spec_reader_pick.f
  rw [hw]
  by_cases hn1 : n < 1
  · refine ⟨0, evPos hn1 (Ev.step (fun k => by simp only [spec_reader_pick.j0]; rfl) (evPos (by trivial) (evRet rfl))), by omega, .inr rfl⟩
  by_cases hb : (b.length : Int) = 0
  · refine ⟨0, evNeg hn1 (Ev.step (fun k => by simp only [spec_reader_pick.j0]; rfl) (evPos (by simp [hb]) (evRet rfl))), by omega, .inr rfl⟩
  have hbf : ((b.length : Int) == 0) = false := by simpa using hb
  have hl := h.1
  by_cases hlt : p < (b.length : Int)
  · have hr := code_rd b h p hp0 hlt
    refine ⟨Int.tmod (wrap64 (rd b p)) n, evNeg hn1 (Ev.step (fun k => by simp only [spec_reader_pick.j0, hbf, hw1]; rfl) (evNeg (by simp) (evPos hlt (evPos hp0 (evNeg (by omega) (evRet rfl)))))), ?_, .inl ?_⟩
    · exact Int.tmod_nonneg _ (by rw [wrapIn (by omega) (by omega)]; omega)
    · exact Int.tmod_lt_of_pos _ (by omega)
  · have hm0 : 0 ≤ Int.tmod p (b.length : Int) := Int.tmod_nonneg _ hp0
    have hm1 : Int.tmod p (b.length : Int) < b.length := Int.tmod_lt_of_pos _ (by omega)
    have hq : wrap64 (wrap64 (p * 7) + 3) = p * 7 + 3 := by rw [wrapIn (x := p * 7) (by omega) (by omega), wrapIn (by omega) (by omega)]
    have hk0 : 0 ≤ Int.tmod (p * 7 + 3) (b.length : Int) := Int.tmod_nonneg _ (by omega)
    have hk1 : Int.tmod (p * 7 + 3) (b.length : Int) < b.length := Int.tmod_lt_of_pos _ (by omega)
    have r1 := code_rd b h _ hm0 hm1
    have r2 := code_rd b h _ hk0 hk1
    have hd0 : 0 ≤ Int.tdiv p (b.length : Int) := Int.tdiv_nonneg hp0 (by omega)
    have hd1 : Int.tdiv p (b.length : Int) ≤ p := by
      have := Int.natAbs_tdiv_le_natAbs p (b.length : Int)
      omega
    refine ⟨_, evNeg hn1 (Ev.step (fun k => by simp only [spec_reader_pick.j0, hbf, hw1, hq]; rfl) (evNeg (by simp) (evNeg hlt (evNeg hb (evPos hm0 (evPos hm1 (evPos hk0 (evPos hk1 (evNeg (by omega) (evRet rfl)))))))))), ?_, .inl (Int.tmod_lt_of_pos _ (by omega))⟩
    generalize rd b (Int.tmod p (b.length : Int)) = u at *
    generalize rd b (Int.tmod (p * 7 + 3) (b.length : Int)) = t at *
    generalize Int.tdiv p (b.length : Int) = q at *
    rw [wrapIn (x := u) (by omega) (by omega), wrapIn (x := t) (by omega) (by omega), wrapIn (x := q) (by omega) (by omega), wrapIn (x := u * 131) (by omega) (by omega), wrapIn (x := t * 1117) (by omega) (by omega), wrapIn (x := u * 131 + t * 1117) (by omega) (by omega), wrapIn (x := p * 29) (by omega) (by omega), wrapIn (x := u * 131 + t * 1117 + p * 29) (by omega) (by omega), wrapIn (x := q * 53) (by omega) (by omega), wrapIn (x := u * 131 + t * 1117 + p * 29 + q * 53) (by omega) (by omega)]
    generalize hX : u * 131 + t * 1117 + p * 29 + q * 53 = X
    have hX0 : 0 ≤ X := by omega
    have hX1 : X < 4611686018427387904 := by omega
    have hT0 : 0 ≤ Int.tdiv X 64 := Int.tdiv_nonneg hX0 (by omega)
    have hT1 : Int.tdiv X 64 ≤ X := by
      have := Int.natAbs_tdiv_le_natAbs X 64
      omega
    rw [wrapIn (x := Int.tdiv X 64) (by omega) (by omega)]
    exact Int.tmod_nonneg _ (xor_nonneg _ _ hX0 hX1 hT0 (by omega))
theorem spec_newReader.ev (l : List Int) (hw : ∀ x ∈ l, (Lit.int .u8 x).wf = true) : ∃ b, spec_newReader.f l = some (b, 0) ∧ CodeOk b := by
  have hx : ∀ x ∈ l, 0 ≤ x ∧ x ≤ 255 := fun x hx => by
    have := hw x hx
    have hmin : IntKind.u8.min = 0 := rfl
    have hmax : IntKind.u8.max = 255 := rfl
    simp only [Lit.wf, Bool.and_eq_true, decide_eq_true_eq] at this
    omega
  unfold spec_newReader.f
  by_cases h : (l.length : Int) > 2000
  · rw [if_pos h, if_pos (by omega)]
    exact ⟨_, rfl, by simp; omega, fun x h2 => hx x (List.mem_of_mem_take h2)⟩
  · rw [if_neg h]
    exact ⟨_, rfl, by omega, hx⟩

theorem spec_reader_one.ev (b : List Int) (h : CodeOk b) (p : Int) (hp0 : 0 ≤ p) (hp1 : p < 1000000000) (l : List Int) (hl0 : 0 < l.length) (hl1 : l.length ≤ 1000) : ∃ v, Ev (fun k => spec_reader_one.f k b p l) (v, p + 1) ∧ v ∈ l := by
  obtain ⟨v, hv, h0, h1⟩ := spec_reader_pick.ev b h p (l.length : Int) hp0 hp1 (by omega)
  have hlt : v < l.length := by omega
  refine ⟨rd l v, ?_, ?_⟩
  · unfold spec_reader_one.f
    exact evBind hv (evPos h0 (evPos hlt (evRet rfl)))
  · obtain ⟨n, rfl⟩ := Int.eq_ofNat_of_zero_le h0
    rw [rdN l n (by omega)]
    exact List.getElem_mem _

def Bytes (l : List Int) : Prop := ∀ x ∈ l, 0 ≤ x ∧ x ≤ 255
theorem Bytes.set {l : List Int} (h : Bytes l) (i : Nat) (v : Int) (h0 : 0 ≤ v) (h1 : v ≤ 255) : Bytes (l.set i v) := by
  intro x hx
  rcases List.mem_or_eq_of_mem_set hx with hx | rfl
  · exact h x hx
  · exact ⟨h0, h1⟩
theorem spec_newImage.val (a b c : Int) (ha : 1 ≤ a ∧ a ≤ 16) (hb : 1 ≤ b ∧ b ≤ 16) (hc : 1 ≤ c ∧ c ≤ 4) : spec_newImage.f a b c = some (a, b, c, List.replicate (a * b * c).toNat 0) := by
  obtain ⟨h1, h2, h3, h4⟩ := shape_prod ha hb hc
  unfold spec_newImage.f
  rw [shape_wrap ha hb hc, if_pos (by omega), if_pos (by omega)]
theorem spec_randomImage.ev_l0 (b : List Int) (h : CodeOk b) (kind W H n : Int) (N : Nat) (hN : N ≤ 100000) (d : Nat) : ∀ (i : Nat) (at_ p : Int) (l : List Int), l.length = N → i ≤ N → N - i = d → 0 ≤ at_ → at_ ≤ 255 → Bytes l → 0 ≤ p → p + d < 1000000000 →
    ∃ l' q, Ev (fun k => spec_randomImage.l0 k kind at_ (i : Int) b p W H n l) (W, H, n, l', q) ∧ l'.length = N ∧ Bytes l' ∧ p ≤ q ∧ q ≤ p + d := by
  induction d with
  | zero =>
    intro i at_ p l hl hi hd _ _ hb hp _
    exact ⟨l, p, Ev.step (fun k => by simp only [spec_randomImage.l0]; rfl) (evNeg (by omega) (evRet rfl)), hl, hb, by omega, by omega⟩
  | succ d ih =>
    intro i at_ p l hl hi hd h0 h1 hb hp hpd
    have hlt : (i : Int) < (l.length : Int) := by omega
    by_cases k0 : kind = 0
    · obtain ⟨v, hv, v0, v1⟩ := spec_reader_pick.ev b h p 256 hp (by omega) (by omega)
      obtain ⟨l', q, he, e1, e2, e3, e4⟩ := ih (i + 1) v (p + 1) (l.set (i : Int).toNat v) (by simpa using hl) (by omega) (by omega) v0 (by omega) (hb.set _ v v0 (by omega)) (by omega) (by omega)
      refine ⟨l', q, Ev.step (fun k => by simp only [spec_randomImage.l0, wrapSucc i (by omega)]; rfl) (evPos hlt (evPos k0 (evBind hv ?_))), e1, e2, by omega, by omega⟩
      exact evPos (show (0 : Int) ≤ (i : Int) by omega) he
    by_cases k1 : kind = 1
    · obtain ⟨v, hv, v0, v1⟩ := spec_reader_pick.ev b h p 5 hp (by omega) (by omega)
      have hw : wrap64 (wrap64 (at_ + v) + 254) = at_ + v + 254 := by rw [wrapIn (x := at_ + v) (by omega) (by omega), wrapIn (by omega) (by omega)]
      have t0 := Int.tmod_nonneg 256 (show 0 ≤ at_ + v + 254 by omega)
      have t1 := Int.tmod_lt_of_pos (at_ + v + 254) (show (0 : Int) < 256 by omega)
      obtain ⟨l', q, he, e1, e2, e3, e4⟩ := ih (i + 1) (Int.tmod (at_ + v + 254) 256) (p + 1) (l.set (i : Int).toNat (Int.tmod (at_ + v + 254) 256)) (by simpa using hl) (by omega) (by omega) t0 (by omega) (hb.set _ _ t0 (by omega)) (by omega) (by omega)
      refine ⟨l', q, Ev.step (fun k => by simp only [spec_randomImage.l0, wrapSucc i (by omega)]; rfl) (evPos hlt (evNeg k0 (evPos k1 (evBind hv ?_)))), e1, e2, by omega, by omega⟩
      simp only [hw]
      exact evPos (show (0 : Int) ≤ (i : Int) by omega) he
    by_cases k2 : kind = 2
    · obtain ⟨v, hv, v0, v1⟩ := spec_reader_pick.ev b h p 4 hp (by omega) (by omega)
      have hw : wrap64 (60 * v) = 60 * v := wrapIn (by omega) (by omega)
      obtain ⟨l', q, he, e1, e2, e3, e4⟩ := ih (i + 1) (60 * v) (p + 1) (l.set (i : Int).toNat (60 * v)) (by simpa using hl) (by omega) (by omega) (by omega) (by omega) (hb.set _ _ (by omega) (by omega)) (by omega) (by omega)
      refine ⟨l', q, Ev.step (fun k => by simp only [spec_randomImage.l0, wrapSucc i (by omega)]; rfl) (evPos hlt (evNeg k0 (evNeg k1 (evPos k2 (evBind hv ?_))))), e1, e2, by omega, by omega⟩
      simp only [hw]
      exact evPos (show (0 : Int) ≤ (i : Int) by omega) he
    · obtain ⟨l', q, he, e1, e2, e3, e4⟩ := ih (i + 1) at_ p (l.set (i : Int).toNat at_) (by simpa using hl) (by omega) (by omega) h0 h1 (hb.set _ _ h0 h1) (by omega) (by omega)
      exact ⟨l', q, Ev.step (fun k => by simp only [spec_randomImage.l0, wrapSucc i (by omega)]; rfl) (evPos hlt (evNeg k0 (evNeg k1 (evNeg k2 (evPos (by omega) he))))), e1, e2, by omega, by omega⟩
theorem spec_randomImage.ev (b : List Int) (h : CodeOk b) (p : Int) (hp0 : 0 ≤ p) (hp1 : p < 900000000) (n : Int) (hn : 1 ≤ n ∧ n ≤ 4) :
    ∃ W H l q, Ev (fun k => spec_randomImage.f k b p n) (W, H, n, l, q) ∧ ImgOk W H n l ∧ W ≤ 8 ∧ H ≤ 8 ∧ p ≤ q ∧ q ≤ p + 2000 := by
  obtain ⟨W, hW, mW⟩ := spec_reader_one.ev b h p hp0 (by omega) [3, 4, 2, 5, 1, 8, 6] (by simp) (by simp)
  obtain ⟨H, hH, mH⟩ := spec_reader_one.ev b h (p + 1) (by omega) (by omega) [3, 2, 4, 1, 5, 8] (by simp) (by simp)
  obtain ⟨kd, hk, k0, k1⟩ := spec_reader_pick.ev b h (p + 1 + 1) 4 (by omega) (by omega) (by omega)
  obtain ⟨at_, ha, a0, a1⟩ := spec_reader_pick.ev b h (p + 1 + 1 + 1) 256 (by omega) (by omega) (by omega)
  have bW : 1 ≤ W ∧ W ≤ 8 := by
    simp only [List.mem_cons, List.mem_nil_iff, or_false] at mW
    omega
  have bH : 1 ≤ H ∧ H ≤ 8 := by
    simp only [List.mem_cons, List.mem_nil_iff, or_false] at mH
    omega
  have hI := spec_newImage.val W H n ⟨bW.1, by omega⟩ ⟨bH.1, by omega⟩ hn
  obtain ⟨_, _, h3, h4⟩ := shape_prod (a := W) (b := H) (c := n) ⟨bW.1, by omega⟩ ⟨bH.1, by omega⟩ hn
  obtain ⟨l', q, he, e1, e2, e3, e4⟩ := spec_randomImage.ev_l0 b h kd W H n (W * H * n).toNat (by omega) (W * H * n).toNat 0 at_ (p + 1 + 1 + 1 + 1) (List.replicate (W * H * n).toNat 0) (by simp) (by omega) (by omega) a0 (by omega)
    (fun x hx => by rw [List.mem_replicate] at hx; omega) (by omega) (by omega)
  refine ⟨W, H, l', q, ?_, ⟨⟨bW.1, by omega⟩, ⟨bH.1, by omega⟩, hn, by omega, e2⟩, bW.2, bH.2, by omega, by omega⟩
  unfold spec_randomImage.f
  exact evBind hW (evBind hH (evFix hI (evBind hk (evBind ha he))))
theorem spec_spoilImage.ev (b : List Int) (h : CodeOk b) (p : Int) (hp0 : 0 ≤ p) (hp1 : p < 900000000) (W H n : Int) (l : List Int) (hl : 0 < l.length) :
    ∃ W' H' n' l' q, Ev (fun k => spec_spoilImage.f k b p W H n l) (W', H', n', l', q) ∧ l'.length ≤ l.length ∧ p ≤ q ∧ q ≤ p + 2 := by
  obtain ⟨v, hv, v0, v1⟩ := spec_reader_pick.ev b h p 40 hp0 (by omega) (by omega)
  unfold spec_spoilImage.f
  by_cases e0 : v = 0
  · obtain ⟨u, hu, _⟩ := spec_reader_one.ev b h (p + 1) (by omega) (by omega) [0, 17, wrap64 (W + 1)] (by simp) (by simp)
    exact ⟨u, H, n, l, p + 1 + 1, evBind hv (evPos e0 (evBind hu (evRet rfl))), by omega, by omega, by omega⟩
  by_cases e1 : v = 1
  · exact ⟨W, H, n, l.drop (1 : Int).toNat, p + 1, evBind hv (evNeg e0 (evPos e1 (evPos (by omega) (evRet rfl)))), by simp, by omega, by omega⟩
  by_cases e2 : v = 2
  · obtain ⟨u, hu, _⟩ := spec_reader_one.ev b h (p + 1) (by omega) (by omega) [-1, 256] (by simp) (by simp)
    exact ⟨W, H, n, l.set (0 : Int).toNat u, p + 1 + 1, evBind hv (evNeg e0 (evNeg e1 (evPos e2 (evBind hu (evPos (by omega) (evRet rfl)))))), by simp, by omega, by omega⟩
  by_cases e3 : v = 3
  · obtain ⟨u, hu, _⟩ := spec_reader_one.ev b h (p + 1) (by omega) (by omega) [0, 5] (by simp) (by simp)
    exact ⟨W, H, u, l, p + 1 + 1, evBind hv (evNeg e0 (evNeg e1 (evNeg e2 (evPos e3 (evBind hu (evRet rfl)))))), by omega, by omega, by omega⟩
  · exact ⟨W, H, n, l, p + 1, evBind hv (evNeg e0 (evNeg e1 (evNeg e2 (evNeg e3 (evRet rfl))))), by omega, by omega, by omega⟩
theorem spec_anyPlanes.ev (b : List Int) (h : CodeOk b) (p : Int) (hp0 : 0 ≤ p) (hp1 : p < 900000000) : ∃ n, Ev (fun k => spec_anyPlanes.f k b p) (n, p + 1) ∧ 1 ≤ n ∧ n ≤ 4 := by
  obtain ⟨u, hu, mu⟩ := spec_reader_one.ev b h p hp0 (by omega) [1, 3, 1, 4, 2] (by simp) (by simp)
  refine ⟨u, ?_, ?_⟩
  · unfold spec_anyPlanes.f
    exact evBind hu (evRet rfl)
  · simp only [List.mem_cons, List.mem_nil_iff, or_false] at mu
    omega
theorem spec_anyImage.ev (b : List Int) (h : CodeOk b) (p : Int) (hp0 : 0 ≤ p) (hp1 : p < 800000000) : ∃ W H n l q, Ev (fun k => spec_anyImage.f k b p) (W, H, n, l, q) ∧ l.length ≤ 1024 ∧ p ≤ q ∧ q ≤ p + 3000 := by
  obtain ⟨n, hn, n0, n1⟩ := spec_anyPlanes.ev b h p hp0 (by omega)
  obtain ⟨W, H, l, q, hr, ok, _, _, q0, q1⟩ := spec_randomImage.ev b h (p + 1) (by omega) (by omega) n ⟨n0, n1⟩
  obtain ⟨W', H', n', l', q', hs, e1, e2, e3⟩ := spec_spoilImage.ev b h q (by omega) (by omega) W H n l ok.len.1
  refine ⟨W', H', n', l', q', ?_, by have := ok.len.2; omega, by omega, by omega⟩
  unfold spec_anyImage.f
  exact evBind hn (evBind hr (evBind hs (evRet rfl)))

def gl (f : Nat → Bool) : List Bool := (List.range 256).map f
theorem gl_length (f : Nat → Bool) : (gl f).length = 256 := by simp [gl]
theorem gl_rd (f : Nat → Bool) (i : Nat) (h : i < 256) : rdOf false (gl f) (i : Int) = f i := by
  simp [rdOf, gl, List.getD_eq_getElem?_getD, List.getElem?_map, List.getElem?_range h]
theorem gl_get (f : Nat → Bool) (j : Nat) (h : j < (gl f).length) : (gl f)[j] = f j := by simp [gl]
theorem gl_set (f : Nat → Bool) (i : Nat) (b : Bool) : (gl f).set i b = gl (fun j => if j = i then b else f j) := by
  apply List.ext_getElem
  · simp [gl]
  · intro j h1 h2
    simp only [List.getElem_set, gl, List.getElem_map, List.getElem_range]
    by_cases h : i = j
    · subst h; simp
    · rw [if_neg h, if_neg (fun e => h e.symm)]
theorem gl_congr {f g : Nat → Bool} (h : ∀ i, i < 256 → f i = g i) : gl f = gl g := by
  unfold gl
  exact List.map_congr_left fun i hi => h i (by simpa using hi)
theorem gl_false : List.replicate 256 false = gl (fun _ => false) := by
  apply List.ext_getElem
  · rw [List.length_replicate, gl_length]
  · intro j h1 h2
    rw [List.getElem_replicate, gl_get]
theorem runsL_length (f : Nat → Bool) : (runsL f).length ≤ 256 := runsUpto_length f 256

/-- The reference's runs of a row, from column x on. -/
def RowAt (f : Nat → Bool) (y : Nat) (out : List S59) (fr : Int) (x : Nat) : Prop :=
  (fr = -1 ∧ (x = 0 ∨ f (16 * y + x - 1) = false) ∧ out = runsUpto f (16 * y + x)) ∨
  ∃ a : Nat, fr = (a : Int) ∧ a < x ∧ (∀ i, a ≤ i → i < x → f (16 * y + i) = true) ∧ (a = 0 ∨ f (16 * y + a - 1) = false) ∧ out = runsUpto f (16 * y + a)
theorem endOf_eq (f : Nat → Bool) (y a x : Nat) (hax : a ≤ x) (hx : x ≤ 16) (h : ∀ i, a ≤ i → i < x → f (16 * y + i) = true) (he : x = 16 ∨ f (16 * y + x) = false) : endOf f y a = x := by
  obtain ⟨h1, h2, h3, h4⟩ := endOf_facts f y (16 - a) a (by omega) rfl
  rcases Nat.lt_trichotomy (endOf f y a) x with hh | hh | hh
  · have := h (endOf f y a) h1 hh
    rw [h4 (by omega)] at this
    cases this
  · exact hh
  · rcases he with he | he
    · omega
    · have := h3 x hax hh
      rw [he] at this
      cases this
theorem spec_runsOf.ev_l1 (f : Nat → Bool) (y : Nat) (hy : y < 16) (R : List S59) (hR : Ev (fun k => spec_runsOf.l0 k (gl f) (runsUpto f (16 * (y + 1))) ((y + 1 : Nat) : Int)) R) (d : Nat) : ∀ x out fr, x ≤ 17 → 17 - x = d → (x = 17 → fr = -1 ∧ out = runsUpto f (16 * (y + 1))) → (x ≤ 16 → RowAt f y out fr x) →
    Ev (fun k => spec_runsOf.l1 k (gl f) out (y : Int) fr (x : Int)) R := by
  have hwy : wrap64 ((y : Int) + 1) = ((y + 1 : Nat) : Int) := wrapSucc y (by omega)
  induction d with
  | zero =>
    intro x out fr hx hd h17 _
    obtain ⟨_, rfl⟩ := h17 (by omega)
    exact Ev.step (fun k => by simp only [spec_runsOf.l1, hwy]; rfl) (evNeg (by omega) hR)
  | succ d ih =>
    intro x out fr hx hd _ hrow
    have hrow := hrow (by omega)
    have hw : wrap64 ((x : Int) + 1) = ((x + 1 : Nat) : Int) := wrapSucc x (by omega)
    have hlen : ∀ n, (runsUpto f n).length < 5864062014805 ∨ 5864062014805 ≤ n := fun n => by have := runsUpto_length f n; omega
    refine Ev.step (fun k => by simp only [spec_runsOf.l1, hwy]; rfl) (evPos (by omega) ?_)
    -- the pixel there
    obtain ⟨p, hp, hgo⟩ : ∃ p : Bool, (x < 16 ∧ p = f (16 * y + x) ∨ x = 16 ∧ p = false) ∧ (Ev (fun k => spec_runsOf.j2 k (gl f) out (y : Int) fr (x : Int) p) R → Ev (fun k => if (x : Int) < 16 then (if 0 ≤ (wrap64 ((wrap64 ((y : Int) * 16)) + x)) then (if (wrap64 ((wrap64 ((y : Int) * 16)) + x)) < ((gl f).length : Int) then (spec_runsOf.j2 k (gl f) out (y : Int) fr (x : Int) (rdOf false (gl f) (wrap64 ((wrap64 ((y : Int) * 16)) + x)))) else (none)) else (none)) else (spec_runsOf.j2 k (gl f) out (y : Int) fr (x : Int) false)) R) := by
      by_cases h : x < 16
      · have hi : wrap64 ((wrap64 ((y : Int) * 16)) + x) = ((16 * y + x : Nat) : Int) := by rw [wrapIn (x := (y : Int) * 16) (by omega) (by omega), wrapIn (by omega) (by omega)]; omega
        refine ⟨f (16 * y + x), .inl ⟨h, rfl⟩, fun he => ?_⟩
        rw [hi]
        refine evPos (by omega) (evPos (by omega) (evPos (by rw [gl_length]; omega) ?_))
        rw [gl_rd f _ (by omega)]
        exact he
      · exact ⟨false, .inr ⟨by omega, rfl⟩, fun he => evNeg (by omega) he⟩
    refine hgo ?_
    have hnext : RowAt f y (if p = true then out else if fr = -1 then out else out ++ [⟨(y : Int), fr, (x : Int)⟩]) (if p = true then (if fr = -1 then (x : Int) else fr) else -1) (x + 1) ∨ x = 16 := by
      rcases hp with ⟨h16, hp⟩ | ⟨h16, _⟩
      · left
        rcases hrow with ⟨rfl, hprev, rfl⟩ | ⟨a, rfl, ha, hall, hprev, rfl⟩
        · cases hpv : p with
          | true =>
            right
            refine ⟨x, by simp, by omega, fun i h1 h2 => ?_, hprev, by simp⟩
            obtain rfl : i = x := by omega
            rw [← hp, hpv]
          | false =>
            left
            refine ⟨by simp, .inr (by rw [show 16 * y + (x + 1) - 1 = 16 * y + x by omega, ← hp, hpv]), ?_⟩
            rw [if_neg (by simp), if_pos rfl, show 16 * y + (x + 1) = 16 * y + x + 1 by omega, runsUpto_false f _ (by rw [← hp, hpv])]
        · have hne : ¬ ((a : Int) = -1) := by omega
          cases hpv : p with
          | true =>
            right
            refine ⟨a, by simp [hne], by omega, fun i h1 h2 => ?_, hprev, by simp⟩
            rcases Nat.lt_or_ge i x with h3 | h3
            · exact hall i h1 h3
            · obtain rfl : i = x := by omega
              rw [← hp, hpv]
          | false =>
            left
            have hf0 : f (16 * y + x) = false := by rw [← hp, hpv]
            have hend := endOf_eq f y a x (by omega) (by omega) hall (.inr hf0)
            refine ⟨by simp, .inr (by rw [show 16 * y + (x + 1) - 1 = 16 * y + x by omega]; exact hf0), ?_⟩
            have hrun := runsUpto_run f y a (by omega) (hall a (by omega) ha) hprev
            rw [hend] at hrun
            rw [if_neg (by simp), if_neg hne, show 16 * y + (x + 1) = 16 * y + x + 1 by omega, runsUpto_false f _ hf0, hrun]
      · exact .inr h16
    have hlast : x = 16 → (if p = true then (if fr = -1 then (x : Int) else fr) else (-1 : Int)) = -1 ∧ (if p = true then out else if fr = -1 then out else out ++ [⟨(y : Int), fr, (x : Int)⟩]) = runsUpto f (16 * (y + 1)) := by
      intro h16
      have hpf : p = false := by
        rcases hp with ⟨h, _⟩ | ⟨_, h⟩
        · omega
        · exact h
      subst hpf
      refine ⟨by simp, ?_⟩
      rw [if_neg (by simp)]
      rcases hrow with ⟨rfl, hprev, rfl⟩ | ⟨a, rfl, ha, hall, hprev, rfl⟩
      · rw [if_pos rfl, h16]
        rfl
      · rw [if_neg (by omega)]
        have hend := endOf_eq f y a x (by omega) (by omega) hall (.inl h16)
        have hrun := runsUpto_run f y a (by omega) (hall a (by omega) ha) hprev
        rw [hend] at hrun
        rw [← hrun, h16]
        rfl
    have hcont := ih (x + 1) (if p = true then out else if fr = -1 then out else out ++ [⟨(y : Int), fr, (x : Int)⟩]) (if p = true then (if fr = -1 then (x : Int) else fr) else -1) (by omega) (by omega) (fun h => hlast (by omega)) (fun h => by
      rcases hnext with h2 | h2
      · exact h2
      · omega)
    have hfr : fr = -1 ∨ 0 ≤ fr := by
      rcases hrow with ⟨rfl, _⟩ | ⟨a, rfl, _⟩
      · exact .inl rfl
      · exact .inr (by omega)
    have hol : out.length < 5864062014805 := by
      rcases hrow with ⟨_, _, rfl⟩ | ⟨a, _, _, _, _, rfl⟩
      · rcases hlen (16 * y + x) with h | h <;> omega
      · rcases hlen (16 * y + a) with h | h <;> omega
    cases p with
    | true =>
      rw [if_pos rfl, if_pos rfl] at hcont
      refine Ev.step (fun k => by simp only [spec_runsOf.j2]; rfl) ?_
      refine evPos (by trivial) ?_
      refine Ev.step (fun k => by simp only [spec_runsOf.j3, hw]; rfl) ?_
      rcases hfr with rfl | h0
      · rw [if_pos rfl] at hcont
        exact evPos (by simp) (evPos (by trivial) hcont)
      · rw [if_neg (by omega)] at hcont
        exact evNeg (by simp; omega) (evPos (by trivial) hcont)
    | false =>
      simp only [Bool.false_eq_true, if_false] at hcont
      refine Ev.step (fun k => by simp only [spec_runsOf.j2]; rfl) ?_
      refine evNeg (by first | exact not_false | simp) ?_
      refine Ev.step (fun k => by simp only [spec_runsOf.j3, hw]; rfl) ?_
      refine evNeg (by first | exact not_false | simp) ?_
      refine evNeg (by first | exact not_false | simp) ?_
      rcases hfr with rfl | h0
      · rw [if_pos rfl] at hcont
        exact evNeg (by omega) hcont
      · rw [if_neg (by omega)] at hcont
        exact evPos (by omega) (evPos hol hcont)
theorem spec_runsOf.ev_l0 (f : Nat → Bool) (d : Nat) : ∀ y, y ≤ 16 → 16 - y = d → Ev (fun k => spec_runsOf.l0 k (gl f) (runsUpto f (16 * y)) (y : Int)) (runsL f) := by
  induction d with
  | zero =>
    intro y hy hd
    obtain rfl : y = 16 := by omega
    exact Ev.step (fun k => by simp only [spec_runsOf.l0]; rfl) (evNeg (by omega) (evRet rfl))
  | succ d ih =>
    intro y hy hd
    refine Ev.step (fun k => by simp only [spec_runsOf.l0]; rfl) (evPos (by omega) ?_)
    have := spec_runsOf.ev_l1 f y (by omega) (runsL f) (ih (y + 1) (by omega) (by omega)) 17 0 (runsUpto f (16 * y)) (-1) (by omega) rfl (fun h => by omega) (fun _ => .inl ⟨rfl, .inl rfl, rfl⟩)
    exact this
theorem spec_runsOf.ev (f : Nat → Bool) : Ev (fun k => spec_runsOf.f k (gl f)) (runsL f) := spec_runsOf.ev_l0 f 16 0 (by omega) rfl

theorem onGrid_val (a b : Int) : spec_onGrid.f a b = some (decide ((0 ≤ a ∧ a ≤ 15) ∧ (0 ≤ b ∧ b ≤ 15))) := by
  unfold spec_onGrid.f
  rw [inRange_val, inRange_val]
  simp only [Option.bind_some]
  by_cases h : 0 ≤ a ∧ a ≤ 15
  · simp [h]
  · simp [h]

theorem spec_DiscRegion.ev_l0 (x y r : Int) (hk : discOk x y r) (d : Nat) : ∀ p, p ≤ 256 → 256 - p = d →
    Ev (fun k => spec_DiscRegion.l0 k x y r (gl fun j => decide (j < p) && discF x y r j) (p : Int)) (runsL (discF x y r)) := by
  obtain ⟨h1, h2, h3, h4, h5, h6⟩ := hk
  induction d with
  | zero =>
    intro p hp hd
    obtain rfl : p = 256 := by omega
    refine Ev.step (fun k => by simp only [spec_DiscRegion.l0]; rfl) (evNeg (by rw [gl_length]; omega) ?_)
    rw [gl_congr (g := discF x y r) (fun i hi => by rw [decide_eq_true hi, Bool.true_and])]
    exact evBind (spec_runsOf.ev _) (evRet rfl)
  | succ d ih =>
    intro p hp hd
    have hw : wrap64 ((p : Int) + 1) = ((p + 1 : Nat) : Int) := wrapSucc p (by omega)
    have ht : Int.tmod (p : Int) 16 = ((p % 16 : Nat) : Int) := by rw [Int.tmod_eq_emod_of_nonneg (by omega)]; omega
    have hq : Int.tdiv (p : Int) 16 = ((p / 16 : Nat) : Int) := by rw [Int.tdiv_eq_ediv_of_nonneg (by omega)]; omega
    have q1 := sq_bound ((p % 16 : Nat) : Int) x (by omega) (by omega) h1 (by omega)
    have q2 := sq_bound ((p / 16 : Nat) : Int) y (by omega) (by omega) h3 (by omega)
    have q3 := sq_bound r 0 h5 h6 (by omega) (by omega)
    rw [Int.sub_zero] at q3
    have := ih (p + 1) (by omega) (by omega)
    refine Ev.step (f := fun k => spec_DiscRegion.l0 k x y r (gl fun j => decide (j < p + 1) && discF x y r j) ((p + 1 : Nat) : Int)) (fun k => ?_) this
    simp only [spec_DiscRegion.l0, hw, ht, hq]
    rw [if_pos (by rw [gl_length]; omega), if_pos (by omega), wrapIn (x := ((p / 16 : Nat) : Int)) (by omega) (by omega), wrapIn (x := ((p % 16 : Nat) : Int) - x) (by omega) (by omega), wrapIn (x := ((p / 16 : Nat) : Int) - y) (by omega) (by omega)]
    rw [wrapIn (x := (((p % 16 : Nat) : Int) - x) * (((p % 16 : Nat) : Int) - x)) (by omega) (by omega), wrapIn (x := (((p / 16 : Nat) : Int) - y) * (((p / 16 : Nat) : Int) - y)) (by omega) (by omega), wrapIn (x := r * r) (by omega) (by omega)]
    rw [wrapIn (x := (((p % 16 : Nat) : Int) - x) * (((p % 16 : Nat) : Int) - x) + (((p / 16 : Nat) : Int) - y) * (((p / 16 : Nat) : Int) - y)) (by omega) (by omega)]
    rw [Int.toNat_natCast, gl_set]
    congr 1
    refine gl_congr fun i hi => ?_
    by_cases e : i = p
    · subst e
      rw [if_pos rfl, decide_eq_true (show i < i + 1 by omega), Bool.true_and]
      rfl
    · rw [if_neg e]
      congr 1
      exact decide_eq_decide.mpr (by omega)
theorem spec_DiscRegion.ev (x y r : Int) : Ev (fun k => spec_DiscRegion.f k x y r) (if discOk x y r then runsL (discF x y r) else []) := by
  have hno : ¬ discOk x y r → Ev (fun k => spec_DiscRegion.j0 k x y r true) (if discOk x y r then runsL (discF x y r) else []) := fun h => by
    rw [if_neg h]
    exact Ev.step (fun k => by simp only [spec_DiscRegion.j0]; rfl) (evPos (by trivial) (evRet rfl))
  unfold spec_DiscRegion.f
  refine evFix (onGrid_val x y) (evIf (fun h => ?_) (fun h => ?_))
  · rw [decide_eq_true_eq] at h
    refine evFix (inRange_val r 0 16) ?_
    by_cases h2 : 0 ≤ r ∧ r ≤ 16
    · have hk : discOk x y r := ⟨h.1.1, by omega, h.2.1, by omega, h2.1, h2.2⟩
      rw [decide_eq_true h2, if_pos hk]
      refine Ev.step (fun k => by simp only [spec_DiscRegion.j0]; rfl) ?_
      refine evNeg (by simp) (evPos (by omega) ?_)
      rw [gl_false]
      have := spec_DiscRegion.ev_l0 x y r hk 256 0 (by omega) (by omega)
      rw [gl_congr (g := fun _ => false) (fun i hi => by rw [decide_eq_false (by omega)]; rfl)] at this
      exact this
    · rw [decide_eq_false h2]
      exact hno fun hk => h2 ⟨hk.2.2.2.2.1, hk.2.2.2.2.2⟩
  · rw [decide_eq_true_eq] at h
    exact hno fun hk => h ⟨⟨hk.1, by have := hk.2.1; omega⟩, hk.2.2.1, by have := hk.2.2.2.1; omega⟩

theorem gl_of (l : List Bool) (h : l.length = 256) : l = gl (fun i => l.getD i false) := by
  apply List.ext_getElem
  · rw [gl_length, h]
  · intro i h1 h2
    rw [gl_get]
    simp [List.getD_eq_getElem?_getD, List.getElem?_eq_getElem h1]
theorem runsOf_any (l : List Bool) (h : l.length = 256) : ∃ r, Ev (fun k => spec_runsOf.f k l) r ∧ r.length ≤ 256 := by
  rw [gl_of l h]
  exact ⟨_, spec_runsOf.ev _, runsL_length _⟩
theorem spec_randomRegion.ev_j3 (b : List Int) (hb : CodeOk b) (x : List Bool) (hx : x.length = 256) (p : Int) (h0 : 0 ≤ p) (h1 : p ≤ 900000) :
    ∃ r q, Ev (fun k => spec_randomRegion.j3 k x b p) (r, q) ∧ 0 ≤ q ∧ q ≤ p + 2 ∧ r.length ≤ 256 := by
  obtain ⟨v, hv, _, _⟩ := spec_reader_pick.ev b hb p 10 h0 (by omega) (by omega)
  by_cases e : v = 0
  · obtain ⟨u, hu, hm⟩ := spec_reader_one.ev b hb (p + 1) (by omega) (by omega) [15, 240, 255, 0] (by simp) (by simp)
    have hu2 : 0 ≤ u ∧ u < 256 := by simp at hm; omega
    obtain ⟨r, hr, hl⟩ := runsOf_any (x.set u.toNat true) (by simpa using hx)
    refine ⟨r, p + 1 + 1, ?_, by omega, by omega, hl⟩
    refine Ev.step (fun k => by simp only [spec_randomRegion.j3]; rfl) (evBind hv ?_)
    refine evPos e (evBind hu ?_)
    refine evPos hu2.1 ?_
    refine evPos (by omega) (evBind hr (evRet rfl))
  · obtain ⟨r, hr, hl⟩ := runsOf_any x hx
    refine ⟨r, p + 1, ?_, by omega, by omega, hl⟩
    refine Ev.step (fun k => by simp only [spec_randomRegion.j3]; rfl) (evBind hv ?_)
    exact evNeg e (evBind hr (evRet rfl))
theorem spec_randomRegion.ev_l0 (b : List Int) (hb : CodeOk b) (n : Nat) : ∀ (x : List Bool) (p : Int), x.length = 256 → 0 ≤ p → p + 2 * n ≤ 900000 →
    ∃ r q, Ev (fun k => spec_randomRegion.l0 k x (n : Int) b p) (r, q) ∧ 0 ≤ q ∧ q ≤ p + 2 * n + 2 ∧ r.length ≤ 256 := by
  induction n with
  | zero =>
    intro x p hx h0 h1
    obtain ⟨r, q, hr, q0, q1, hl⟩ := spec_randomRegion.ev_j3 b hb x hx p h0 (by omega)
    exact ⟨r, q, Ev.step (fun k => by simp only [spec_randomRegion.l0]; rfl) (evNeg (by omega) hr), q0, by omega, hl⟩
  | succ n ih =>
    intro x p hx h0 h1
    obtain ⟨v, hv, v0, v1⟩ := spec_reader_pick.ev b hb p 6 h0 (by omega) (by omega)
    obtain ⟨u, hu, u0, u1⟩ := spec_reader_pick.ev b hb (p + 1) 6 (by omega) (by omega) (by omega)
    have hi : wrap64 ((wrap64 (v * 16)) + u) = v * 16 + u := by rw [wrapIn (x := v * 16) (by omega) (by omega), wrapIn (by omega) (by omega)]
    have hn : wrap64 (((n + 1 : Nat) : Int) - 1) = (n : Int) := by rw [wrapIn (by omega) (by omega)]; omega
    obtain ⟨r, q, hr, q0, q1, hl⟩ := ih (x.set (v * 16 + u).toNat true) (p + 1 + 1) (by simpa using hx) (by omega) (by omega)
    refine ⟨r, q, ?_, q0, by omega, hl⟩
    refine Ev.step (fun k => by simp only [spec_randomRegion.l0, hn]; rfl) ?_
    refine evPos (by omega) (evBind hv (evBind hu ?_))
    simp only [hi]
    refine evPos (by omega) ?_
    exact evPos (by omega) hr
theorem spec_randomRegion.ev_l2 (b : List Int) (n : Nat) (p : Int) (C : List S59 → Int → Prop)
    (hnext : ∀ x : List Bool, x.length = 256 → ∃ r q, Ev (fun k => spec_randomRegion.l1 k x (n : Int) b p) (r, q) ∧ C r q) (hn : n ≤ 100000) (X Y : Int) (hX0 : 0 ≤ X) (hX1 : X ≤ 7) (hY0 : 0 ≤ Y) (hY1 : Y ≤ 7) (d : Nat) :
    ∀ (i : Nat) (x : List Bool), i ≤ 12 → 12 - i = d → x.length = 256 → ∃ r q, Ev (fun k => spec_randomRegion.l2 k x ((n + 1 : Nat) : Int) X Y (i : Int) b p) (r, q) ∧ C r q := by
  have hn1 : wrap64 (((n + 1 : Nat) : Int) - 1) = (n : Int) := by rw [wrapIn (by omega) (by omega)]; omega
  induction d with
  | zero =>
    intro i x hi hd hx
    obtain ⟨r, q, hr, hc⟩ := hnext x hx
    exact ⟨r, q, Ev.step (fun k => by simp only [spec_randomRegion.l2, hn1]; rfl) (evNeg (by omega) hr), hc⟩
  | succ d ih =>
    intro i x hi hd hx
    have hw : wrap64 ((i : Int) + 1) = ((i + 1 : Nat) : Int) := wrapSucc i (by omega)
    have ht : Int.tmod (i : Int) 4 = ((i % 4 : Nat) : Int) := by rw [Int.tmod_eq_emod_of_nonneg (by omega)]; omega
    have hq : Int.tdiv (i : Int) 4 = ((i / 4 : Nat) : Int) := by rw [Int.tdiv_eq_ediv_of_nonneg (by omega)]; omega
    have hidx : wrap64 ((wrap64 ((wrap64 ((wrap64 (Y + (wrap64 (Int.tdiv (i : Int) 4)))) * 16)) + X)) + (Int.tmod (i : Int) 4)) = (Y + (i / 4 : Nat)) * 16 + X + (i % 4 : Nat) := by
      rw [ht, hq, wrapIn (x := ((i / 4 : Nat) : Int)) (by omega) (by omega), wrapIn (x := Y + ((i / 4 : Nat) : Int)) (by omega) (by omega), wrapIn (x := (Y + ((i / 4 : Nat) : Int)) * 16) (by omega) (by omega), wrapIn (x := (Y + ((i / 4 : Nat) : Int)) * 16 + X) (by omega) (by omega), wrapIn (by omega) (by omega)]
    obtain ⟨r, q, hr, hc⟩ := ih (i + 1) (x.set ((Y + (i / 4 : Nat)) * 16 + X + (i % 4 : Nat) : Int).toNat true) (by omega) (by omega) (by simpa using hx)
    refine ⟨r, q, ?_, hc⟩
    refine Ev.step (fun k => by simp only [spec_randomRegion.l2, hw, hidx]; rfl) ?_
    refine evPos (by omega) ?_
    refine evPos (by omega) ?_
    exact evPos (by omega) hr
theorem spec_randomRegion.ev_l1 (b : List Int) (hb : CodeOk b) (n : Nat) : ∀ (x : List Bool) (p : Int), x.length = 256 → 0 ≤ p → p + 2 * n ≤ 90000 →
    ∃ r q, Ev (fun k => spec_randomRegion.l1 k x (n : Int) b p) (r, q) ∧ (0 ≤ q ∧ q ≤ p + 2 * n + 2 ∧ r.length ≤ 256) := by
  induction n with
  | zero =>
    intro x p hx h0 h1
    obtain ⟨r, q, hr, q0, q1, hl⟩ := spec_randomRegion.ev_j3 b hb x hx p h0 (by omega)
    exact ⟨r, q, Ev.step (fun k => by simp only [spec_randomRegion.l1]; rfl) (evNeg (by omega) hr), q0, by omega, hl⟩
  | succ n ih =>
    intro x p hx h0 h1
    obtain ⟨v, hv, v0, v1⟩ := spec_reader_pick.ev b hb p 8 h0 (by omega) (by omega)
    obtain ⟨u, hu, u0, u1⟩ := spec_reader_pick.ev b hb (p + 1) 8 (by omega) (by omega) (by omega)
    obtain ⟨r, q, hr, hc⟩ := spec_randomRegion.ev_l2 b n (p + 1 + 1) (fun r q => 0 ≤ q ∧ q ≤ p + 1 + 1 + 2 * n + 2 ∧ r.length ≤ 256) (fun x hx => ih x (p + 1 + 1) hx (by omega) (by omega)) (by omega) v u v0 (by omega) u0 (by omega) 12 0 x (by omega) rfl hx
    refine ⟨r, q, ?_, hc.1, by omega, hc.2.2⟩
    refine Ev.step (fun k => by simp only [spec_randomRegion.l1]; rfl) ?_
    refine evPos (by omega) (evBind hv (evBind hu ?_))
    exact hr
theorem spec_randomRegion.ev (b : List Int) (hb : CodeOk b) (p : Int) (h0 : 0 ≤ p) (h1 : p ≤ 80000) : ∃ r q, Ev (fun k => spec_randomRegion.f k b p) (r, q) ∧ 0 ≤ q ∧ q ≤ p + 100 ∧ r.length ≤ 256 := by
  obtain ⟨v, hv, v0, v1⟩ := spec_reader_pick.ev b hb p 4 h0 (by omega) (by omega)
  unfold spec_randomRegion.f
  by_cases e : v = 0
  · obtain ⟨u, hu, u0, u1⟩ := spec_reader_pick.ev b hb (p + 1) 8 (by omega) (by omega) (by omega)
    obtain ⟨t, ht, t0, t1⟩ := spec_reader_pick.ev b hb (p + 1 + 1) 8 (by omega) (by omega) (by omega)
    obtain ⟨s, hs, s0, s1⟩ := spec_reader_pick.ev b hb (p + 1 + 1 + 1) 5 (by omega) (by omega) (by omega)
    refine ⟨_, p + 1 + 1 + 1 + 1, evPos (by omega) (evFix rfl (evBind hv (evPos e (evBind hu (evBind ht (evBind hs (evBind (spec_DiscRegion.ev u t s) (evRet rfl)))))))), by omega, by omega, ?_⟩
    split
    · exact runsL_length _
    · simp
  by_cases e1 : v = 1
  · obtain ⟨u, hu, u0, u1⟩ := spec_reader_pick.ev b hb (p + 1) 12 (by omega) (by omega) (by omega)
    obtain ⟨n, rfl⟩ := Int.eq_ofNat_of_zero_le u0
    obtain ⟨r, q, hr, q0, q1, hl⟩ := spec_randomRegion.ev_l0 b hb n (List.replicate 256 false) (p + 1 + 1) (List.length_replicate ..) (by omega) (by omega)
    exact ⟨r, q, evPos (by omega) (evFix rfl (evBind hv (evNeg e (evPos e1 (evBind hu hr))))), q0, by omega, hl⟩
  · obtain ⟨u, hu, u0, u1⟩ := spec_reader_pick.ev b hb (p + 1) 5 (by omega) (by omega) (by omega)
    obtain ⟨n, rfl⟩ := Int.eq_ofNat_of_zero_le u0
    obtain ⟨r, q, hr, q0, q1, hl⟩ := spec_randomRegion.ev_l1 b hb n (List.replicate 256 false) (p + 1 + 1) (List.length_replicate ..) (by omega) (by omega)
    exact ⟨r, q, evPos (by omega) (evFix rfl (evBind hv (evNeg e (evNeg e1 (evBind hu hr))))), q0, by omega, hl⟩
theorem spec_anyRegion.ev (b : List Int) (hb : CodeOk b) (p : Int) (h0 : 0 ≤ p) (h1 : p ≤ 70000) : ∃ r q, Ev (fun k => spec_anyRegion.f k b p) (r, q) ∧ 0 ≤ q ∧ q ≤ p + 110 ∧ r.length ≤ 256 := by
  obtain ⟨r, q, hr, q0, q1, hl⟩ := spec_randomRegion.ev b hb p h0 (by omega)
  have hfalse : ∀ q', Ev (fun k => spec_anyRegion.j0 k r false b q') (r, q') := fun q' =>
    Ev.step (fun k => by simp only [spec_anyRegion.j0]; rfl) (evNeg (by first | exact not_false | simp) (evRet rfl))
  unfold spec_anyRegion.f
  by_cases hz : (r.length : Int) > 0
  · obtain ⟨v, hv, v0, v1⟩ := spec_reader_pick.ev b hb q 20 q0 (by omega) (by omega)
    by_cases e : v = 0
    · obtain ⟨u, hu, u0, u1⟩ := spec_reader_pick.ev b hb (q + 1) (r.length : Int) (by omega) (by omega) (by omega)
      obtain ⟨a, ha, _⟩ := spec_reader_one.ev b hb (q + 1 + 1) (by omega) (by omega) [(-1), 0, 15, 16] (by simp) (by simp)
      obtain ⟨c, hc, _⟩ := spec_reader_one.ev b hb (q + 1 + 1 + 1) (by omega) (by omega) [(-1), 0, 15, 16] (by simp) (by simp)
      obtain ⟨s, hs, _⟩ := spec_reader_one.ev b hb (q + 1 + 1 + 1 + 1) (by omega) (by omega) [0, 1, 16, 17] (by simp) (by simp)
      refine ⟨r.set u.toNat ⟨a, c, s⟩, q + 1 + 1 + 1 + 1 + 1, evBind hr (evPos hz (evBind hv ?_)), by omega, by omega, by simpa using hl⟩
      subst e
      refine Ev.step (fun k => by simp only [spec_anyRegion.j0]; rfl) ?_
      refine evPos (by rfl) (evBind hu (evBind ha (evBind hc (evBind hs ?_))))
      refine evPos u0 ?_
      exact evPos (by omega) (evRet rfl)
    · refine ⟨r, q + 1, evBind hr (evPos hz (evBind hv ?_)), by omega, by omega, hl⟩
      have : (v == 0) = false := by simpa using e
      simp only [this]
      exact hfalse _
  · exact ⟨r, q, evBind hr (evNeg hz (hfalse q)), q0, by omega, hl⟩

theorem wrapPred (n : Nat) (h : n < 9223372036854775807) : wrap64 (((n + 1 : Nat) : Int) - 1) = (n : Int) := by
  rw [wrapIn (by omega) (by omega)]; omega
theorem spec_twoImages.ev_end (b : List Int) (h : CodeOk b) (x6 : Int) (p : Int) (hp0 : 0 ≤ p) (hp1 : p < 700000000) (W H n : Int) (l : List Int) (W' H' n' : Int) (q : List Int) (hq : q.length ≤ 1024) :
    ∃ A B C r t, Ev (fun k => spec_twoImages.j1 k x6 false b p W H n l W' H' n' q) (W, H, n, l, A, B, C, r, t) ∧ r.length ≤ 1024 ∧ 0 ≤ t ∧ t ≤ p + 3001 := by
  obtain ⟨v, hv, v0, v1⟩ := spec_reader_pick.ev b h p 16 hp0 (by omega) (by omega)
  by_cases e : v = 0
  · obtain ⟨A, B, C, r, t, he, hr, t0, t1⟩ := spec_anyImage.ev b h (p + 1) (by omega) (by omega)
    refine ⟨A, B, C, r, t, Ev.step (fun k => by simp only [spec_twoImages.j1]; rfl) (evNeg (by simp) (evBind hv ?_)), hr, by omega, by omega⟩
    refine evPos e ?_
    exact evBind he (evRet rfl)
  · exact ⟨W', H', n', q, p + 1, Ev.step (fun k => by simp only [spec_twoImages.j1]; rfl) (evNeg (by simp) (evBind hv (evNeg e (evRet rfl)))), hq, by omega, by omega⟩
theorem spec_twoImages.ev_l0 (b : List Int) (h : CodeOk b) (W H n : Int) (l : List Int) (W' H' n' : Int) (d : Nat) : ∀ (p : Int) (q : List Int), d ≤ 6 → 0 ≤ p → p + 2 * d < 700000000 → q.length ≤ 1024 →
    ∃ A B C r t, Ev (fun k => spec_twoImages.l0 k (d : Int) b p W H n l W' H' n' q) (W, H, n, l, A, B, C, r, t) ∧ r.length ≤ 1024 ∧ 0 ≤ t ∧ t ≤ p + 2 * d + 3001 := by
  induction d with
  | zero =>
    intro p q hd hp0 hp1 hq
    obtain ⟨A, B, C, r, t, he, hr, t0, t1⟩ := spec_twoImages.ev_end b h 0 p hp0 (by omega) W H n l W' H' n' q hq
    exact ⟨A, B, C, r, t, Ev.step (fun k => by simp only [spec_twoImages.l0]; rfl) (evNeg (by simp) he), hr, t0, by omega⟩
  | succ d ih =>
    intro p q hd hp0 hp1 hq
    by_cases hz : 0 < q.length
    · obtain ⟨v, hv, v0, v1⟩ := spec_reader_pick.ev b h p (q.length : Int) hp0 (by omega) (by omega)
      obtain ⟨u, hu, _⟩ := spec_reader_pick.ev b h (p + 1) 256 (by omega) (by omega) (by omega)
      obtain ⟨A, B, C, r, t, he, hr, t0, t1⟩ := ih (p + 1 + 1) (q.set v.toNat u) (by omega) (by omega) (by omega) (by rw [List.length_set]; exact hq)
      refine ⟨A, B, C, r, t, Ev.step (fun k => by simp only [spec_twoImages.l0]; rfl) (evPos (by omega) (Ev.step (fun k => by simp only [spec_twoImages.j1, wrapPred d (by omega)]; rfl) (evPos (decide_eq_true (by omega)) (evBind hv (evBind hu ?_))))), hr, t0, by omega⟩
      refine evPos v0 ?_
      exact evPos (show v < (q.length : Int) by omega) he
    · obtain ⟨A, B, C, r, t, he, hr, t0, t1⟩ := spec_twoImages.ev_end b h ((d + 1 : Nat) : Int) p hp0 (by omega) W H n l W' H' n' q hq
      rw [← decide_eq_false (show ¬ ((q.length : Int) > 0) by omega)] at he
      exact ⟨A, B, C, r, t, Ev.step (fun k => by simp only [spec_twoImages.l0]; rfl) (evPos (by omega) he), hr, t0, by omega⟩
theorem spec_twoImages.ev (b : List Int) (h : CodeOk b) (p : Int) (hp0 : 0 ≤ p) (hp1 : p < 500000000) :
    ∃ W H n l A B C r t, Ev (fun k => spec_twoImages.f k b p) (W, H, n, l, A, B, C, r, t) ∧ l.length ≤ 1024 ∧ r.length ≤ 1024 ∧ 0 ≤ t ∧ t ≤ p + 7000 := by
  obtain ⟨W, H, n, l, q, he, hl, q0, q1⟩ := spec_anyImage.ev b h p hp0 (by omega)
  obtain ⟨v, hv, v0, v1⟩ := spec_reader_pick.ev b h q 6 (by omega) (by omega) (by omega)
  obtain ⟨d, rfl⟩ : ∃ d : Nat, v = (d : Int) := ⟨v.toNat, by omega⟩
  obtain ⟨A, B, C, r, t, he2, hr, t0, t1⟩ := spec_twoImages.ev_l0 b h W H n l W H n d (q + 1) l (by omega) (by omega) (by omega) hl
  exact ⟨W, H, n, l, A, B, C, r, t, by unfold spec_twoImages.f; exact evBind he (evFix (spec_copyInts.val l (by omega)) (evBind hv he2)), hl, hr, t0, by omega⟩
theorem spec_DrawMaskImage.ev (l : List Int) (hw : ∀ x ∈ l, (Lit.int .u8 x).wf = true) : ∃ W H n r A B C q lr, Ev (fun k => spec_DrawMaskImage.f k l) (W, H, n, r, A, B, C, q, lr) ∧ r.length ≤ 1024 ∧ q.length ≤ 1024 ∧ lr.length ≤ 256 := by
  obtain ⟨s, hb, h⟩ := spec_newReader.ev l hw
  obtain ⟨W, H, n, r, A, B, C, q, t, he, h1, h2, t0, t1⟩ := spec_twoImages.ev s h 0 (by omega) (by omega)
  obtain ⟨lr, q', hr, r0, r1, h3⟩ := spec_anyRegion.ev s h t (by omega) (by omega)
  exact ⟨W, H, n, r, A, B, C, q, lr, by unfold spec_DrawMaskImage.f; exact evFix hb (evBind he (evBind hr (evRet rfl))), h1, h2, h3⟩

theorem FnMaskImageChanged : laws_FnMaskImageChanged.Pure := by
  intro l _ _ hw
  refine Ev.rounds ?_
  obtain ⟨a, b, c, r, a', b', c', q, lr, hd, hlr, hlq, hrr⟩ := spec_DrawMaskImage.ev l hw
  have h3 := spec_MaskImage.ev a b c r a' b' c' q lr (by omega) (by omega) (by omega)
  unfold laws_FnMaskImageChanged.f
  refine evIf (fun _ => evRet rfl) (fun _ => ?_)
  by_cases hk : MaskOk a b c r a' b' c' q lr
  · rw [if_pos hk] at h3
    obtain ⟨hi, hj, ⟨rfl, rfl, rfl⟩, hv⟩ := hk
    have hq2 := hj.2.2.2.1
    obtain ⟨W, H, p, rfl, rfl, rfl, hll, b1, b2, b3, b4, b5, b6⟩ := hi.nats
    have hqq : q.length = W * H * p := by
      have e : ((W * H * p : Nat) : Int) = (W : Int) * (H : Int) * (p : Int) := by push_cast; rfl
      omega
    simp only [Int.toNat_natCast] at h3
    obtain ⟨U, hU, lU, nU, okU, pU, eU⟩ := mask_again W H p r q lr hi hj hll hqq hv b1 b2 b3 b4 b5 b6
    rw [← eU] at h3
    have hC : impl_ChangedRegion.f (W : Int) (H : Int) (p : Int) r (W : Int) (H : Int) (p : Int) q = some (runsL (diffF W H p r q)) := by
      unfold impl_ChangedRegion.f
      rw [if_pos ⟨hi, hj, rfl, rfl, rfl⟩]
      simp only [Int.toNat_natCast]
    obtain ⟨V, hV, lV, nV, okV, pV, eV⟩ := mask_again W H p r q (runsL (diffF W H p r q)) hi hj hll hqq (runsL_valid _) b1 b2 b3 b4 b5 b6
    have v1 : V = q := image_ext W H p V q nV hqq (fun x y hx hy => by
      rw [pV x y hx hy, gridF_runsL _ _ (by omega)]
      unfold diffF diffB
      rw [show (16 * y + x) % 16 = x by omega, show (16 * y + x) / 16 = y by omega, decide_eq_true (show (x : Int) < (W : Int) by omega), decide_eq_true (show (y : Int) < (H : Int) by omega)]
      simp only [Int.toNat_natCast, Bool.true_and, Bool.not_eq_true', decide_eq_false_iff_not]
      by_cases e : pixN W p r x y = pixN W p q x y
      · rw [if_neg (by simp [e]), e]
      · rw [if_pos e])
    subst v1
    have q1 := laws_equalImage.refl (W : Int) (H : Int) (p : Int) U (by omega)
    have q2 := laws_equalImage.refl (W : Int) (H : Int) (p : Int) V (by omega)
    refine evBind hd (evFix hU (evBind h3 (evBind q1 (evPos rfl (evNeg (by simp) ?_)))))
    refine Ev.step (fun k => by simp only [laws_FnMaskImageChanged.j0]; rfl) (evNeg (by simp) ?_)
    exact evFix hC (evFix hV (evPos rfl (evBind q2 (evRet rfl))))
  · rw [if_neg hk] at h3
    have hU : impl_MaskImage.f a b c r a' b' c' q lr = some (0, 0, 0, [], false) := by
      unfold impl_MaskImage.f
      rw [if_neg hk]
    have q1 := laws_equalImage.refl 0 0 0 [] (by simp)
    refine evBind hd (evFix hU (evBind h3 (evBind q1 (evPos rfl (evNeg (by simp) ?_)))))
    exact Ev.step (fun k => by simp only [laws_FnMaskImageChanged.j0]; rfl) (evPos (by rfl) (evBind q1 (evPos rfl (evRet rfl))))

end Go.Proofs.Ytbkhhlifpknbeaa.Pure
