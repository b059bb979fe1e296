/- FnExactCountImage answers true for every two images: the program's CountImage is the reference's. No condition. -/
import Derived.Test.YtmaiifghplcjeaaPrintHimplCountImage
import Derived.Test.YtmaiifghplcjeaaPrintHimpleachPlace
import Derived.Test.YtmaiifghplcjeaaPrintHimplimageBy
import Derived.Test.YtmaiifghplcjeaaPrintHx0
import Derived.Test.YtmaiifghplcjeaaPrintHx2
import Derived.Test.YtmaiifghplcjeaaPrintLFnExactCountImage
import Derived.Test.YtmaiifghplcjeaaPrintR0x0
import Derived.Test.YtmaiifghplcjeaaPrintR1x0
import Derived.Test.YtmaiifghplcjeaaPrintR1x1
import Derived.Test.YtmaiifghplcjeaaPrintR1x2
import Derived.Test.YtmaiifghplcjeaaPrintR1x3
import Derived.Test.YtmaiifghplcjeaaPrintR1x4
namespace Go.Proofs.Ytmaiifghplcjeaa.Pure
open Go.RowKit Go.Proofs.Ytmaiifghplcjeaa.Print Go.Proofs.YtmaiifghplcjeaaW.PrintWords Go.Proofs.YtmaiifghplcjeaaW.PrintLast Go.Proofs.YtmaiifghplcjeaaW.PrintMore
set_option linter.unusedVariables false
set_option linter.unusedSimpArgs false
theorem rdN (l : List Int) (k : Nat) (h : k < l.length) : rd l (k : Int) = l[k] := by
  simp [rd, List.getD_eq_getElem?_getD, List.getElem?_eq_getElem h]
theorem drop_cons_ {α : Type} (l : List α) (k : Nat) (h : k < l.length) : l.drop k = l[k] :: l.drop (k + 1) := List.drop_eq_getElem_cons h
theorem take_snocN {α : Type} (l : List α) (k : Nat) (h : k < l.length) : l.take (k + 1) = l.take k ++ [l[k]] := by
  rw [List.take_succ_eq_append_getElem h]
/-- Two lists of one length, from a place on. -/
theorem decide_drop_eq {α : Type} [DecidableEq α] (a b : List α) (i : Nat) (h1 : i < a.length) (h2 : i < b.length) : decide (a.drop i = b.drop i) = (decide (a[i] = b[i]) && decide (a.drop (i + 1) = b.drop (i + 1))) := by
  rw [drop_cons_ a i h1, drop_cons_ b i h2]
  rw [Bool.eq_iff_iff]
  simp only [decide_eq_true_eq, Bool.and_eq_true, List.cons.injEq]

theorem spec_newImage.val (a b c : Int) (ha : 1 ≤ a ∧ a ≤ 16) (hb : 1 ≤ b ∧ b ≤ 16) (hc : 1 ≤ c ∧ c ≤ 4) : spec_newImage.f a b c = some (a, b, c, List.replicate (a * b * c).toNat 0) := by
  obtain ⟨h1, h2, h3, h4⟩ := shape_prod ha hb hc
  unfold spec_newImage.f
  rw [shape_wrap ha hb hc, if_pos (by omega), if_pos (by omega)]
theorem spec_copyInts.val (l : List Int) (h : l.length < 17592186044416) : spec_copyInts.f l = some l := by
  unfold spec_copyInts.f
  simp [h]

theorem place_wrap (W p x y : Nat) (hW : W ≤ 16) (hp : p ≤ 4) (hx : x ≤ 16) (hy : y ≤ 16) : wrap64 (wrap64 (wrap64 ((y : Int) * (W : Int)) + (x : Int)) * (p : Int)) = (((y * W + x) * p : Nat) : Int) := by
  have h1 : y * W ≤ 16 * 16 := Nat.mul_le_mul hy hW
  have h2 : (y * W + x) * p ≤ 272 * 4 := Nat.mul_le_mul (by omega) hp
  have e1 : (y : Int) * (W : Int) = ((y * W : Nat) : Int) := by push_cast; rfl
  have e2 : ((y * W + x : Nat) : Int) * (p : Int) = (((y * W + x) * p : Nat) : Int) := by push_cast; rfl
  rw [e1, wrapNat (y * W) (by omega), show ((y * W : Nat) : Int) + (x : Int) = ((y * W + x : Nat) : Int) by omega, wrapNat (y * W + x) (by omega), e2, wrapNat _ (by omega)]
theorem spec_pixelAt.val (W H p : Nat) (l : List Int) (x y : Nat) (hl : l.length = W * H * p) (hW : W ≤ 16) (hH : H ≤ 16) (hp : p ≤ 4) (hx : x < W) (hy : y < H) : spec_pixelAt.f (W : Int) (H : Int) (p : Int) l (x : Int) (y : Int) = some (pixN W p l x y) := by
  have h := pix_lt (p := p) hx hy
  rw [← hl] at h
  have hlen := pixN_length hx hy hl
  have h2 : (y * W + x) * p ≤ 272 * 4 := Nat.mul_le_mul (by have : y * W ≤ 16 * 16 := Nat.mul_le_mul (by omega) hW; omega) hp
  unfold spec_pixelAt.f
  rw [place_wrap W p x y hW hp (by omega) (by omega)]
  have e : wrap64 ((((y * W + x) * p : Nat) : Int) + (p : Int)) = (((y * W + x) * p + p : Nat) : Int) := by rw [wrapIn (by omega) (by omega)]; omega
  rw [e, if_pos (by omega), if_pos (by omega), if_pos (by omega), Int.toNat_natCast, Int.toNat_natCast]
  have hc := spec_copyInts.val (pixN W p l x y) (by omega)
  unfold pixN at hc ⊢
  rw [hc]
  rfl
/-- A list with a pixel's numbers put in. -/
def putPix (l px : List Int) (i : Nat) : List Int := l.take i ++ px ++ l.drop (i + px.length)
theorem putPix_upto (l px : List Int) (i q : Nat) (hi : i + px.length ≤ l.length) (hq : q < px.length) : (putPix l (px.take q) i).set (i + q) px[q] = putPix l (px.take (q + 1)) i := by
  unfold putPix
  have e1 : (l.take i).length = i := by rw [List.length_take]; omega
  have e2 : (px.take q).length = q := by rw [List.length_take]; omega
  have e3 : (px.take (q + 1)).length = q + 1 := by rw [List.length_take]; omega
  rw [e2, e3, List.set_append_right _ _ (by rw [List.length_append, e1, e2]; omega), List.length_append, e1, e2, Nat.sub_self, List.drop_eq_getElem_cons (show i + q < l.length by omega), List.set_cons_zero, List.take_succ_eq_append_getElem hq]
  simp only [List.append_assoc, List.singleton_append, Nat.add_assoc]
theorem putPix_length (l px : List Int) (i : Nat) (hi : i + px.length ≤ l.length) : (putPix l px i).length = l.length := by
  unfold putPix
  simp only [List.length_append, List.length_take, List.length_drop]
  omega
theorem putPix_nil (l : List Int) (i : Nat) : putPix l [] i = l := by unfold putPix; simp
theorem spec_setPixel.ev_l0 (W H p i : Nat) (l px : List Int) (x y : Nat) (hpx : px.length = p) (hl : i + p ≤ l.length) (hi : i ≤ 4096) (hp : p ≤ 4) (hw : wrap64 (wrap64 (wrap64 ((y : Int) * (W : Int)) + (x : Int)) * (p : Int)) = (i : Int)) (d : Nat) : ∀ q, q ≤ p → p - q = d →
    Ev (fun k => spec_setPixel.l0 k (x : Int) (y : Int) px (q : Int) (W : Int) (H : Int) (p : Int) (putPix l (px.take q) i)) (putPix l px i) := by
  induction d with
  | zero =>
    intro q hq hd
    refine Ev.step (fun k => by simp only [spec_setPixel.l0]; rfl) (evNeg (by clear hw; omega) (evRet ?_))
    rw [List.take_of_length_le (by clear hw; omega)]
  | succ d ih =>
    intro q hq hd
    have hn := ih (q + 1) (by clear hw ih; omega) (by clear hw ih; omega)
    clear ih
    have hlt : q < px.length := by clear hw; omega
    have hs := putPix_upto l px i q (by clear hw; omega) hlt
    have hle : (putPix l (px.take q) i).length = l.length := putPix_length _ _ _ (by rw [List.length_take]; clear hw; omega)
    have e : wrap64 ((i : Int) + (q : Int)) = ((i + q : Nat) : Int) := by rw [wrapIn (by clear hw; omega) (by clear hw; omega)]; rfl
    refine Ev.step (g := fun k => spec_setPixel.l0 k (x : Int) (y : Int) px (q : Int) (W : Int) (H : Int) (p : Int) (putPix l (px.take q) i)) (f := fun k => spec_setPixel.l0 k (x : Int) (y : Int) px ((q + 1 : Nat) : Int) (W : Int) (H : Int) (p : Int) (putPix l (px.take (q + 1)) i)) (fun k => ?_) hn
    simp only [spec_setPixel.l0]
    rw [hw, e]
    clear hw e hn
    rw [if_pos (show (q : Int) < (p : Int) by omega), if_pos (show (0 : Int) ≤ (q : Int) by omega), if_pos (show (q : Int) < (px.length : Int) by omega), if_pos (show (0 : Int) ≤ ((i + q : Nat) : Int) by omega), if_pos (show ((i + q : Nat) : Int) < ((putPix l (px.take q) i).length : Int) by omega), Int.toNat_natCast, rdN px q hlt, hs, wrapSucc q (by omega)]
theorem spec_setPixel.ev (W H p : Nat) (l px : List Int) (x y : Nat) (hpx : px.length = p) (hl : (y * W + x) * p + p ≤ l.length) (hW : W ≤ 16) (hp : p ≤ 4) (hx : x ≤ 15) (hy : y ≤ 15) :
    Ev (fun k => spec_setPixel.f k (W : Int) (H : Int) (p : Int) l (x : Int) (y : Int) px) (putPix l px ((y * W + x) * p)) := by
  have h2 : (y * W + x) * p ≤ 272 * 4 := Nat.mul_le_mul (by have : y * W ≤ 16 * 16 := Nat.mul_le_mul (by omega) hW; omega) hp
  have h := spec_setPixel.ev_l0 W H p ((y * W + x) * p) l px x y hpx hl (by omega) hp (place_wrap W p x y hW hp (by omega) (by omega)) p 0 (by omega) (by omega)
  rw [List.take_zero, putPix_nil] at h
  unfold spec_setPixel.f
  exact h
/-- An image that is being filled, pixel by pixel. -/
def fillTo (f : Nat → Nat → List Int) (W p N n : Nat) : List Int := pixelsUpto f W n ++ List.replicate ((N - n) * p) 0
theorem pixels_len (f : Nat → Nat → List Int) (W H p : Nat) (hf : ∀ x y, x < W → y < H → (f x y).length = p) (n : Nat) (hn : n ≤ W * H) : (pixelsUpto f W n).length = n * p := by
  induction n with
  | zero => simp [pixelsUpto]
  | succ n ih =>
    have h1 := ih (by omega)
    have hW : 0 < W := by
      rcases Nat.eq_zero_or_pos W with h | h
      · subst h; omega
      · exact h
    unfold pixelsUpto at h1 ⊢
    rw [List.range_succ, List.flatMap_append, List.length_append, h1]
    have h2 := hf (n % W) (n / W) (Nat.mod_lt _ hW) (by rw [Nat.div_lt_iff_lt_mul hW, Nat.mul_comm]; omega)
    rw [List.flatMap_cons, List.flatMap_nil, List.append_nil, h2, Nat.succ_mul]
theorem fillTo_zero (f : Nat → Nat → List Int) (W p N : Nat) : fillTo f W p N 0 = List.replicate (N * p) 0 := by simp [fillTo, pixelsUpto]
theorem fillTo_all (f : Nat → Nat → List Int) (W p N : Nat) : fillTo f W p N N = pixelsUpto f W N := by simp [fillTo]
theorem fillTo_len (f : Nat → Nat → List Int) (W H p : Nat) (hf : ∀ x y, x < W → y < H → (f x y).length = p) (n : Nat) (hn : n ≤ W * H) : (fillTo f W p (W * H) n).length = W * H * p := by
  unfold fillTo
  rw [List.length_append, pixels_len f W H p hf n hn, List.length_replicate, ← Nat.add_mul]
  congr 1
  omega
theorem row_lt {W H x y : Nat} (hx : x < W) (hy : y < H) : W * y + x < W * H := by
  have : W * (y + 1) ≤ W * H := Nat.mul_le_mul_left _ hy
  rw [Nat.mul_succ] at this
  omega
theorem fillTo_put (f : Nat → Nat → List Int) (W H p : Nat) (hf : ∀ x y, x < W → y < H → (f x y).length = p) (x y : Nat) (hx : x < W) (hy : y < H) :
    putPix (fillTo f W p (W * H) (W * y + x)) (f x y) ((y * W + x) * p) = fillTo f W p (W * H) (W * y + x + 1) := by
  have hlt := row_lt hx hy
  have hlen := pixels_len f W H p hf (W * y + x) (by omega)
  unfold putPix fillTo
  rw [Nat.mul_comm y W, hf x y hx hy, List.take_append_of_le_length (by omega), List.take_of_length_le (by omega), List.drop_append, hlen, List.drop_eq_nil_of_le (by omega), pixelsUpto_snoc f W x y hx, List.nil_append]
  congr 1
  rw [show (W * y + x) * p + p - (W * y + x) * p = p by omega, List.drop_replicate]
  congr 1
  rw [show W * H - (W * y + x) = (W * H - (W * y + x + 1)) + 1 by omega, Nat.succ_mul]
  omega

theorem wrapAddN (a b : Nat) (ha : a ≤ 1000) (hb : b ≤ 1000) : wrap64 ((a : Int) + (b : Int)) = ((a + b : Nat) : Int) := by rw [wrapIn (by omega) (by omega)]; omega
theorem crop_len {W H p u v X Y : Nat} {l : List Int} (hl : l.length = W * H * p) (hX : X + u ≤ W) (hY : Y + v ≤ H) (x y : Nat) (hx : x < u) (hy : y < v) : (pixN W p l (X + x) (Y + y)).length = p := pixN_length (by omega) (by omega) hl
theorem spec_crop.ev_l1 (W H p u v X Y : Nat) (l : List Int) (hl : l.length = W * H * p) (hW : W ≤ 16) (hH : H ≤ 16) (hp : p ≤ 4) (hX : X + u ≤ W) (hY : Y + v ≤ H) (y : Nat) (hy : y < v) (R : Int × Int × Int × List Int)
    (hR : Ev (fun k => spec_crop.l0 k (X : Int) (Y : Int) (u : Int) (v : Int) (wrap64 ((y : Int) + 1)) W H p l u v p (fillTo (fun x y => pixN W p l (X + x) (Y + y)) u p (u * v) (u * (y + 1)))) R) (d : Nat) : ∀ x, x ≤ u → u - x = d →
    Ev (fun k => spec_crop.l1 k (X : Int) (Y : Int) (u : Int) (v : Int) (y : Int) (x : Int) W H p l u v p (fillTo (fun x y => pixN W p l (X + x) (Y + y)) u p (u * v) (u * y + x))) R := by
  induction d with
  | zero =>
    intro x hx hd
    refine Ev.step (fun k => by simp only [spec_crop.l1]; rfl) (evNeg (by omega) ?_)
    rw [show u * y + x = u * (y + 1) by rw [Nat.mul_succ]; omega]
    exact hR
  | succ d ih =>
    intro x hx hd
    have hlt : x < u := by omega
    have h1 := spec_pixelAt.val W H p l (X + x) (Y + y) hl hW hH hp (by omega) (by omega)
    have hf : ∀ x y, x < u → y < v → (pixN W p l (X + x) (Y + y)).length = p := crop_len hl hX hY
    have hr := row_lt hlt hy
    have hle := fillTo_len (fun x y => pixN W p l (X + x) (Y + y)) u v p hf (u * y + x) (by omega)
    have h2 := spec_setPixel.ev u v p (fillTo (fun x y => pixN W p l (X + x) (Y + y)) u p (u * v) (u * y + x)) (pixN W p l (X + x) (Y + y)) x y (hf x y hlt hy) (by rw [hle]; exact pix_lt hlt hy) (by omega) hp (by omega) (by omega)
    rw [fillTo_put (fun x y => pixN W p l (X + x) (Y + y)) u v p hf x y hlt hy] at h2
    refine Ev.step (fun k => by simp only [spec_crop.l1, wrapAddN X x (by omega) (by omega), wrapAddN Y y (by omega) (by omega), wrapSucc x (by omega)]; rfl) ?_
    refine evPos (by omega) (evFix h1 (evBind h2 ?_))
    exact ih (x + 1) (by omega) (by omega)
theorem spec_crop.ev_l0 (W H p u v X Y : Nat) (l : List Int) (hl : l.length = W * H * p) (hW : W ≤ 16) (hH : H ≤ 16) (hp : p ≤ 4) (hX : X + u ≤ W) (hY : Y + v ≤ H) (d : Nat) : ∀ y, y ≤ v → v - y = d →
    Ev (fun k => spec_crop.l0 k (X : Int) (Y : Int) (u : Int) (v : Int) (y : Int) W H p l u v p (fillTo (fun x y => pixN W p l (X + x) (Y + y)) u p (u * v) (u * y))) ((u : Int), (v : Int), (p : Int), pixelsUpto (fun x y => pixN W p l (X + x) (Y + y)) u (u * v)) := by
  induction d with
  | zero =>
    intro y hy hd
    refine Ev.step (fun k => by simp only [spec_crop.l0]; rfl) (evNeg (by omega) (evRet ?_))
    rw [show y = v by omega, fillTo_all]
  | succ d ih =>
    intro y hy hd
    have h := ih (y + 1) (by omega) (by omega)
    rw [← wrapSucc y (by omega)] at h
    refine Ev.step (fun k => by simp only [spec_crop.l0]; rfl) (evPos (by omega) ?_)
    exact spec_crop.ev_l1 W H p u v X Y l hl hW hH hp hX hY y (by omega) _ h u 0 (by omega) (by omega)
theorem spec_crop.ev (W H p u v X Y : Nat) (l : List Int) (hl : l.length = W * H * p) (hW : W ≤ 16) (hH : H ≤ 16) (hp0 : 1 ≤ p) (hp : p ≤ 4) (hu : 1 ≤ u) (hv : 1 ≤ v) (hX : X + u ≤ W) (hY : Y + v ≤ H) :
    Ev (fun k => spec_crop.f k (W : Int) (H : Int) (p : Int) l (X : Int) (Y : Int) (u : Int) (v : Int)) ((u : Int), (v : Int), (p : Int), pixelsUpto (fun x y => pixN W p l (X + x) (Y + y)) u (u * v)) := by
  have hn := spec_newImage.val (u : Int) (v : Int) (p : Int) (by omega) (by omega) (by omega)
  have h4 := spec_crop.ev_l0 W H p u v X Y l hl hW hH hp hX hY v 0 (by omega) (by omega)
  rw [Nat.mul_zero, fillTo_zero] at h4
  have e : ((u : Int) * (v : Int) * (p : Int)).toNat = u * v * p := by
    rw [show (u : Int) * (v : Int) * (p : Int) = ((u * v * p : Nat) : Int) by push_cast; rfl, Int.toNat_natCast]
  unfold spec_crop.f
  refine evFix hn ?_
  simp only [e]
  exact h4

theorem inRange_val (a lo hi : Int) : spec_inRange.f a lo hi = some (decide (lo ≤ a ∧ a ≤ hi)) := by
  unfold spec_inRange.f
  split
  · rename_i h; simp [h]
  · rename_i h; simp [h]

/-- All numbers of a list lie in a range. -/
def allB (lo hi : Int) (l : List Int) : Bool := l.all fun x => decide (lo ≤ x ∧ x ≤ hi)
theorem allB_iff (lo hi : Int) (l : List Int) : allB lo hi l = true ↔ ∀ x ∈ l, lo ≤ x ∧ x ≤ hi := by
  unfold allB
  rw [List.all_eq_true]
  simp only [decide_eq_true_eq]
theorem spec_allIn.ev_l0 (l : List Int) (lo hi : Int) (hl : l.length ≤ 9223372036854775806) (d : Nat) : ∀ i, i ≤ l.length → l.length - i = d →
    Ev (fun k => spec_allIn.l0 k l lo hi (i : Int)) (allB lo hi (l.drop i)) := by
  induction d with
  | zero =>
    intro i hi' hd
    refine Ev.step (fun k => by simp only [spec_allIn.l0]; rfl) (evNeg (by omega) (evRet ?_))
    rw [List.drop_of_length_le (by omega)]
    rfl
  | succ d ih =>
    intro i hi' hd
    have hw : wrap64 ((i : Int) + 1) = ((i + 1 : Nat) : Int) := wrapSucc i (by omega)
    refine Ev.step (fun k => by simp only [spec_allIn.l0, hw]; rfl) (evPos (by omega) (evPos (by omega) ?_))
    rw [rdN l i (by omega), drop_cons_ l i (by omega)]
    have hr : spec_inRange.f l[i] lo hi = some (decide (lo ≤ l[i] ∧ l[i] ≤ hi)) := by
      unfold spec_inRange.f
      split
      · rename_i h; simp [h]
      · rename_i h; simp [h]
    have e : allB lo hi (l[i] :: l.drop (i + 1)) = (decide (lo ≤ l[i] ∧ l[i] ≤ hi) && allB lo hi (l.drop (i + 1))) := by
      unfold allB
      rw [List.all_cons]
    rw [e]
    refine evFix hr (evIf (fun h => ?_) (fun h => evRet ?_))
    · rw [h, Bool.true_and]
      exact ih (i + 1) (by omega) (by omega)
    · rw [Bool.eq_false_iff.mpr h, Bool.false_and]
theorem spec_allIn.ev (l : List Int) (lo hi : Int) (hl : l.length ≤ 9223372036854775806) : Ev (fun k => spec_allIn.f k l lo hi) (allB lo hi l) := by
  have := spec_allIn.ev_l0 l lo hi hl l.length 0 (by omega) (by omega)
  unfold spec_allIn.f
  simpa using this

theorem spec_validShape.val (a b c : Int) : spec_validShape.f a b c = some (decide ((1 ≤ a ∧ a ≤ 16) ∧ (1 ≤ b ∧ b ≤ 16) ∧ (1 ≤ c ∧ c ≤ 4))) := by
  unfold spec_validShape.f
  rw [inRange_val, inRange_val, inRange_val]
  simp only [Option.bind_some, decide_eq_true_eq]
  by_cases h1 : 1 ≤ a ∧ a ≤ 16
  · rw [if_pos h1]
    by_cases h2 : 1 ≤ b ∧ b ≤ 16
    · rw [if_pos h2]
      congr 1
      rw [Bool.eq_iff_iff]
      simp only [decide_eq_true_eq]
      exact ⟨fun h => ⟨h1, h2, h⟩, fun h => h.2.2⟩
    · rw [if_neg h2, decide_eq_false (fun h => h2 h.2.1)]
  · rw [if_neg h1, decide_eq_false (fun h => h1 h.1)]
theorem allB_bytes (l : List Int) : allB 0 255 l = decide (∀ x ∈ l, 0 ≤ x ∧ x ≤ 255) := by
  rw [Bool.eq_iff_iff, allB_iff, decide_eq_true_eq]
theorem spec_validImage.ev (a b c : Int) (l : List Int) (hl : l.length ≤ 9223372036854775806) : Ev (fun k => spec_validImage.f k a b c l) (decide (ImgOk a b c l)) := by
  unfold spec_validImage.f
  refine evFix (spec_validShape.val a b c) ?_
  by_cases h : (1 ≤ a ∧ a ≤ 16) ∧ (1 ≤ b ∧ b ≤ 16) ∧ (1 ≤ c ∧ c ≤ 4)
  · refine evPos (decide_eq_true h) ?_
    rw [shape_wrap h.1 h.2.1 h.2.2]
    by_cases h2 : (l.length : Int) = a * b * c
    · refine evPos h2 ?_
      have h3 := spec_allIn.ev l 0 255 hl
      refine evBind h3 (evRet ?_)
      rw [allB_bytes, Bool.eq_iff_iff]
      simp only [decide_eq_true_eq]
      exact ⟨fun h3 => ⟨h.1, h.2.1, h.2.2, h2, h3⟩, fun hh => hh.2.2.2.2⟩
    · exact evNeg h2 (evRet (decide_eq_false (fun hh : ImgOk a b c l => h2 hh.2.2.2.1)).symm)
  · exact evNeg (by rw [decide_eq_false h]; simp) (evRet (decide_eq_false (fun hh : ImgOk a b c l => h ⟨hh.1, hh.2.1, hh.2.2.1⟩)).symm)

theorem rd_app_l (A B : List Int) (i : Nat) (h : i < A.length) : rd (A ++ B) (i : Int) = rd A (i : Int) := by
  simp [rd, List.getD_eq_getElem?_getD, List.getElem?_append_left h]
theorem rd_app_r (A B : List Int) (r : Nat) : rd (A ++ B) ((A.length + r : Nat) : Int) = rd B (r : Int) := by
  simp [rd, List.getD_eq_getElem?_getD, List.getElem?_append_right, -Int.natCast_add, Int.toNat_natCast]
theorem pixels_lenp (f : Nat → Nat → List Int) (W p : Nat) (hf : ∀ x y, (f x y).length = p) (n : Nat) : (pixelsUpto f W n).length = n * p := by
  induction n with
  | zero => simp [pixelsUpto]
  | succ n ih =>
    unfold pixelsUpto at ih ⊢
    rw [List.range_succ, List.flatMap_append, List.length_append, ih, List.flatMap_cons, List.flatMap_nil, List.append_nil, hf, Nat.succ_mul]
theorem pixelsUpto_get (f : Nat → Nat → List Int) (W p : Nat) (hp : 0 < p) (hf : ∀ x y, (f x y).length = p) (n : Nat) : ∀ i, i < n * p → rd (pixelsUpto f W n) (i : Int) = rd (f (i / p % W) (i / p / W)) ((i % p : Nat) : Int) := by
  induction n with
  | zero => intro i hi; omega
  | succ n ih =>
    intro i hi
    have hlen := pixels_lenp f W p hf n
    have e : pixelsUpto f W (n + 1) = pixelsUpto f W n ++ f (n % W) (n / W) := by
      unfold pixelsUpto
      rw [List.range_succ, List.flatMap_append, List.flatMap_cons, List.flatMap_nil, List.append_nil]
    rw [e]
    by_cases h : i < n * p
    · rw [rd_app_l _ _ i (by omega)]
      exact ih i h
    · rw [Nat.succ_mul] at hi
      obtain ⟨r, rfl⟩ : ∃ r, i = n * p + r := ⟨i - n * p, by omega⟩
      have h2 : rd (pixelsUpto f W n ++ f (n % W) (n / W)) ((n * p + r : Nat) : Int) = rd (f (n % W) (n / W)) (r : Int) := by
        rw [← hlen]
        exact rd_app_r _ _ r
      have h3 : (n * p + r) / p = n := by rw [Nat.mul_comm, Nat.mul_add_div hp, Nat.div_eq_of_lt (by omega), Nat.add_zero]
      have h4 : (n * p + r) % p = r := by rw [Nat.mul_comm, Nat.mul_add_mod, Nat.mod_eq_of_lt (by omega)]
      rw [h2, h3, h4]
theorem pixelsUpto_congr (f g : Nat → Nat → List Int) (W H : Nat) (h : ∀ x y, x < W → y < H → f x y = g x y) (n : Nat) (hn : n ≤ W * H) : pixelsUpto f W n = pixelsUpto g W n := by
  induction n with
  | zero => rfl
  | succ n ih =>
    have h1 := ih (by omega)
    have hW : 0 < W := by
      rcases Nat.eq_zero_or_pos W with h | h
      · subst h; omega
      · exact h
    unfold pixelsUpto at h1 ⊢
    rw [List.range_succ, List.flatMap_append, List.flatMap_append, h1, List.flatMap_cons, List.flatMap_cons, List.flatMap_nil, List.flatMap_nil, h (n % W) (n / W) (Nat.mod_lt _ hW) (by rw [Nat.div_lt_iff_lt_mul hW, Nat.mul_comm]; omega)]
theorem pixN_mem {W p : Nat} {l : List Int} {x y : Nat} {v : Int} (h : v ∈ pixN W p l x y) : v ∈ l := List.mem_of_mem_take (List.mem_of_mem_drop h)
def gapL (a b : List Int) : Nat → Int
  | 0 => 0
  | n + 1 => gapL a b n + (rd a (n : Int) - rd b (n : Int)) * (rd a (n : Int) - rd b (n : Int))
theorem gapL_bounds (a b : List Int) (ha : ∀ z ∈ a, 0 ≤ z ∧ z ≤ 255) (hb : ∀ z ∈ b, 0 ≤ z ∧ z ≤ 255) (n : Nat) : 0 ≤ gapL a b n ∧ gapL a b n ≤ 65025 * n := by
  induction n with
  | zero => exact ⟨Int.le_refl _, Int.le_refl _⟩
  | succ n ih =>
    have h := sq_bounds (rd_bytes ha n) (rd_bytes hb n)
    show 0 ≤ gapL a b n + (rd a (n : Int) - rd b (n : Int)) * (rd a (n : Int) - rd b (n : Int)) ∧ gapL a b n + (rd a (n : Int) - rd b (n : Int)) * (rd a (n : Int) - rd b (n : Int)) ≤ 65025 * ((n + 1 : Nat) : Int)
    omega
theorem spec_gap.ev_l0 (a b : List Int) (ha : ∀ z ∈ a, 0 ≤ z ∧ z ≤ 255) (hb : ∀ z ∈ b, 0 ≤ z ∧ z ≤ 255) (hl : a.length = b.length) (hlen : a.length ≤ 1024) (d : Nat) : ∀ i, i ≤ a.length → a.length - i = d →
    Ev (fun k => spec_gap.l0 k a b (gapL a b i) (i : Int)) (gapL a b a.length) := by
  induction d with
  | zero =>
    intro i hi hd
    obtain rfl : i = a.length := by omega
    exact Ev.step (fun k => by simp only [spec_gap.l0]; rfl) (evNeg (by omega) (evRet rfl))
  | succ d ih =>
    intro i hi hd
    have h := ih (i + 1) (by omega) (by omega)
    have g1 := gapL_bounds a b ha hb i
    have r1 := rd_bytes ha i
    have r2 := rd_bytes hb i
    have s1 := sq_bounds r1 r2
    have e : gapL a b (i + 1) = gapL a b i + (rd a (i : Int) - rd b (i : Int)) * (rd a (i : Int) - rd b (i : Int)) := rfl
    rw [e] at h
    have w0 : wrap64 (rd a (i : Int) - rd b (i : Int)) = rd a (i : Int) - rd b (i : Int) := wrapIn (by omega) (by omega)
    have w1 : wrap64 ((rd a (i : Int) - rd b (i : Int)) * (rd a (i : Int) - rd b (i : Int))) = (rd a (i : Int) - rd b (i : Int)) * (rd a (i : Int) - rd b (i : Int)) := wrapIn (by omega) (by omega)
    have w2 : wrap64 (gapL a b i + (rd a (i : Int) - rd b (i : Int)) * (rd a (i : Int) - rd b (i : Int))) = gapL a b i + (rd a (i : Int) - rd b (i : Int)) * (rd a (i : Int) - rd b (i : Int)) := wrapIn (by omega) (by omega)
    refine Ev.step (fun k => by simp only [spec_gap.l0, w0, w1, w2, wrapSucc i (by omega)]; rfl) ?_
    clear w0 w1 w2
    exact evPos (by omega) (evPos (by omega) (evPos (by omega) h))
theorem spec_gap.ev (a b : List Int) (ha : ∀ z ∈ a, 0 ≤ z ∧ z ≤ 255) (hb : ∀ z ∈ b, 0 ≤ z ∧ z ≤ 255) (hl : a.length = b.length) (hlen : a.length ≤ 1024) : Ev (fun k => spec_gap.f k a b) (gapL a b a.length) := by
  unfold spec_gap.f
  exact spec_gap.ev_l0 a b ha hb hl hlen a.length 0 (by omega) (by omega)
theorem pixN_num {W H p x y k : Nat} {l : List Int} (hx : x < W) (hy : y < H) (hk : k < p) (hl : l.length = W * H * p) : rd (pixN W p l x y) (k : Int) = rd l (((y * W + x) * p + k : Nat) : Int) := by
  have h1 := pix_lt (p := p) hx hy
  have h2 := pixN_length hx hy hl
  rw [rdN _ k (by omega), rdN l _ (by omega)]
  unfold pixN
  rw [List.getElem_drop, List.getElem_take]
/-- A number of a part. -/
theorem crop_rd (W H p u v X Y : Nat) (l : List Int) (hl : l.length = W * H * p) (hp : 0 < p) (hX : X + u ≤ W) (hY : Y + v ≤ H) (t : Nat) (ht : t < u * v * p) :
    rd (pixelsUpto (fun x y => pixN W p l (X + x) (Y + y)) u (u * v)) (t : Int) = rd l ((((Y + t / p / u) * W + (X + t / p % u)) * p + t % p : Nat) : Int) := by
  have hq : t / p < u * v := by rw [Nat.div_lt_iff_lt_mul hp]; exact ht
  have hu : 0 < u := by
    rcases Nat.eq_zero_or_pos u with h | h
    · subst h; omega
    · exact h
  have h1 : t / p % u < u := Nat.mod_lt _ hu
  have h2 : t / p / u < v := by rw [Nat.div_lt_iff_lt_mul hu, Nat.mul_comm]; exact hq
  have e := pixelsUpto_congr (fun x y => pixN W p l (X + x) (Y + y)) (fun x y => if x < u ∧ y < v then pixN W p l (X + x) (Y + y) else List.replicate p 0) u v (fun x y hx hy => by rw [if_pos ⟨hx, hy⟩]) (u * v) (Nat.le_refl _)
  rw [e, pixelsUpto_get (fun x y => if x < u ∧ y < v then pixN W p l (X + x) (Y + y) else List.replicate p 0) u p hp (fun x y => by
    split
    · rename_i h; exact crop_len hl hX hY x y h.1 h.2
    · simp) (u * v) t ht]
  simp only [h1, h2, and_self, if_true]
  rw [pixN_num (by omega) (by omega) (Nat.mod_lt _ hp) hl]
theorem crop_bytes (W H p u v X Y : Nat) (l : List Int) (hby : ∀ z ∈ l, 0 ≤ z ∧ z ≤ 255) : ∀ z ∈ pixelsUpto (fun x y => pixN W p l (X + x) (Y + y)) u (u * v), 0 ≤ z ∧ z ≤ 255 := by
  intro z hz
  unfold pixelsUpto at hz
  obtain ⟨i, _, hi⟩ := List.mem_flatMap.1 hz
  exact hby z (pixN_mem hi)
theorem gapL_gapU (W H p u v X Y : Nat) (l q : List Int) (hl : l.length = W * H * p) (hp : 0 < p) (hX : X + u ≤ W) (hY : Y + v ≤ H) (n : Nat) (hn : n ≤ u * v * p) :
    gapL (pixelsUpto (fun x y => pixN W p l (X + x) (Y + y)) u (u * v)) q n = gapU W p u l q X Y n := by
  induction n with
  | zero => rfl
  | succ n ih =>
    show gapL _ q n + _ = gapU W p u l q X Y n + gapT W p u l q X Y n
    rw [ih (by omega), crop_rd W H p u v X Y l hl hp hX hY n (by omega)]
    unfold gapT
    generalize rd l _ = a
    generalize rd q _ = b
    congr 1
    rw [show a - b = -(b - a) by omega, Int.neg_mul_neg]
theorem spec_gapAt.ev (W H p u v X Y : Nat) (l q : List Int) (hl : l.length = W * H * p) (hby : ∀ z ∈ l, 0 ≤ z ∧ z ≤ 255) (hlq : q.length = u * v * p) (hbq : ∀ z ∈ q, 0 ≤ z ∧ z ≤ 255) (hW : W ≤ 16) (hH : H ≤ 16) (hp0 : 1 ≤ p) (hp : p ≤ 4) (hu : 1 ≤ u) (hv : 1 ≤ v) (hX : X + u ≤ W) (hY : Y + v ≤ H) :
    Ev (fun k => spec_gapAt.f k (W : Int) (H : Int) (p : Int) l (u : Int) (v : Int) (p : Int) q (X : Int) (Y : Int)) (gapU W p u l q X Y (u * v * p)) := by
  have h1 := spec_crop.ev W H p u v X Y l hl hW hH hp0 hp hu hv hX hY
  have hlen := pixels_len (fun x y => pixN W p l (X + x) (Y + y)) u v p (crop_len hl hX hY) (u * v) (Nat.le_refl _)
  have h1024 : u * v * p ≤ 16 * 16 * 4 := Nat.mul_le_mul (Nat.mul_le_mul (by omega) (by omega)) hp
  have h2 := spec_gap.ev (pixelsUpto (fun x y => pixN W p l (X + x) (Y + y)) u (u * v)) q (crop_bytes W H p u v X Y l hby) hbq (by omega) (by omega)
  rw [hlen, gapL_gapU W H p u v X Y l q hl hp0 hX hY _ (Nat.le_refl _)] at h2
  unfold spec_gapAt.f
  exact evBind h1 (evBind h2 (evRet rfl))

/-- The search, as far as it has come. -/
def findAt (W p u v : Nat) (l q : List Int) (C n : Nat) : Int × Int × Int × Int × Int := placeFold (stepB u v) (fun x y => gapU W p u l q x y (u * v * p)) C (0, 0, 0, 0, -1) n
theorem findAt_least (W p u v : Nat) (l q : List Int) (hby : ∀ z ∈ l, 0 ≤ z ∧ z ≤ 255) (hbq : ∀ z ∈ q, 0 ≤ z ∧ z ≤ 255) (C n : Nat) : 0 ≤ (findAt W p u v l q C (n + 1)).2.2.2.2 := by
  induction n with
  | zero =>
    have h := (gapU_bounds W p u l q (0 % C) (0 / C) hby hbq (u * v * p)).1
    show 0 ≤ (stepB u v (0, 0, 0, 0, -1) (0 % C) (0 / C) _).2.2.2.2
    unfold stepB
    rw [if_pos (.inl (by simp only []; omega))]
    exact h
  | succ n ih =>
    have h := (gapU_bounds W p u l q ((n + 1) % C) ((n + 1) / C) hby hbq (u * v * p)).1
    show 0 ≤ (stepB u v (findAt W p u v l q C (n + 1)) ((n + 1) % C) ((n + 1) / C) _).2.2.2.2
    unfold stepB
    split
    · exact h
    · exact ih
/-- The reference's variables behind n places. -/
def specAt (W p u v : Nat) (l q : List Int) (C n : Nat) : Int × Int × Int × Int × Int := if n = 0 then (0, 0, (u : Int), (v : Int), gapU W p u l q 0 0 (u * v * p)) else findAt W p u v l q C n
theorem specAt_succ (W p u v : Nat) (l q : List Int) (hby : ∀ z ∈ l, 0 ≤ z ∧ z ≤ 255) (hbq : ∀ z ∈ q, 0 ≤ z ∧ z ≤ 255) (C x y : Nat) (hx : x < C) :
    specAt W p u v l q C (C * y + x + 1) = if gapU W p u l q x y (u * v * p) < (specAt W p u v l q C (C * y + x)).2.2.2.2 then ((x : Int), (y : Int), (u : Int), (v : Int), gapU W p u l q x y (u * v * p)) else specAt W p u v l q C (C * y + x) := by
  have e := placeFold_at (stepB u v) (fun x y => gapU W p u l q x y (u * v * p)) C (0, 0, 0, 0, -1) x y hx
  have e1 : specAt W p u v l q C (C * y + x + 1) = stepB u v (findAt W p u v l q C (C * y + x)) x y (gapU W p u l q x y (u * v * p)) := by
    unfold specAt
    rw [if_neg (by omega)]
    exact e
  rw [e1]
  by_cases h0 : C * y + x = 0
  · have hx0 : x = 0 := by omega
    have hy0 : y = 0 := by
      rcases Nat.eq_zero_or_pos y with h | h
      · exact h
      · have : C * 1 ≤ C * y := Nat.mul_le_mul_left _ h
        omega
    subst hx0 hy0
    rw [h0]
    unfold specAt
    rw [if_pos rfl, if_neg (Int.lt_irrefl _)]
    unfold stepB findAt
    rw [if_pos (.inl (by show (-1 : Int) < 0; omega))]
    rfl
  · obtain ⟨m, hm⟩ : ∃ m, C * y + x = m + 1 := ⟨C * y + x - 1, by omega⟩
    have hl := findAt_least W p u v l q hby hbq C m
    have e2 : specAt W p u v l q C (C * y + x) = findAt W p u v l q C (C * y + x) := by unfold specAt; rw [if_neg h0]
    rw [e2, hm]
    unfold stepB
    by_cases hc : gapU W p u l q x y (u * v * p) < (findAt W p u v l q C (m + 1)).2.2.2.2
    · rw [if_pos (.inr hc), if_pos hc]
    · rw [if_neg (by omega), if_neg hc]
theorem spec_FindImage.ev_l1 (W H p u v : Nat) (l q : List Int) (hl : l.length = W * H * p) (hby : ∀ z ∈ l, 0 ≤ z ∧ z ≤ 255) (hlq : q.length = u * v * p) (hbq : ∀ z ∈ q, 0 ≤ z ∧ z ≤ 255) (hW : W ≤ 16) (hH : H ≤ 16) (hp0 : 1 ≤ p) (hp : p ≤ 4) (hu : 1 ≤ u) (hv : 1 ≤ v) (huW : u ≤ W) (C : Nat) (hC : C = W - u + 1) (y : Nat) (hy : y + v ≤ H) (R : Int × Int × Int × Int × Int)
    (hR : ∀ s, s = specAt W p u v l q C (C * (y + 1)) → Ev (fun k => spec_FindImage.l0 k s.2.2.2.2 (wrap64 ((y : Int) + 1)) W H p l u v p q s.1 s.2.1 s.2.2.1 s.2.2.2.1) R) (d : Nat) : ∀ x s, x ≤ C → C - x = d → s = specAt W p u v l q C (C * y + x) →
    Ev (fun k => spec_FindImage.l1 k s.2.2.2.2 (y : Int) (x : Int) W H p l u v p q s.1 s.2.1 s.2.2.1 s.2.2.2.1) R := by
  induction d with
  | zero =>
    intro x s hx hd hs
    refine Ev.step (fun k => by simp only [spec_FindImage.l1, wrapIn (x := (x : Int) + (u : Int)) (by omega) (by omega)]; rfl) ?_
    refine evNeg (by omega) (hR s ?_)
    rw [hs, show C * y + x = C * (y + 1) by rw [Nat.mul_succ]; omega]
  | succ d ih =>
    intro x s hx hd hs
    have hg := spec_gapAt.ev W H p u v x y l q hl hby hlq hbq hW hH hp0 hp hu hv (by omega) hy
    have hsu := specAt_succ W p u v l q hby hbq C x y (by omega)
    rw [← hs] at hsu
    refine Ev.step (fun k => by simp only [spec_FindImage.l1, wrapIn (x := (x : Int) + (u : Int)) (by omega) (by omega), wrapSucc x (by omega)]; rfl) ?_
    refine evPos (by omega) (evBind hg (evIf (fun hc => ?_) (fun hc => ?_)))
    · rw [if_pos hc] at hsu
      have h := ih (x + 1) _ (by omega) (by omega) hsu.symm
      exact h
    · rw [if_neg hc] at hsu
      exact ih (x + 1) s (by omega) (by omega) hsu.symm
theorem spec_FindImage.ev_l0 (W H p u v : Nat) (l q : List Int) (hl : l.length = W * H * p) (hby : ∀ z ∈ l, 0 ≤ z ∧ z ≤ 255) (hlq : q.length = u * v * p) (hbq : ∀ z ∈ q, 0 ≤ z ∧ z ≤ 255) (hW : W ≤ 16) (hH : H ≤ 16) (hp0 : 1 ≤ p) (hp : p ≤ 4) (hu : 1 ≤ u) (hv : 1 ≤ v) (huW : u ≤ W) (hvH : v ≤ H) (C : Nat) (hC : C = W - u + 1) (d : Nat) : ∀ y s, y ≤ H - v + 1 → H - v + 1 - y = d → s = specAt W p u v l q C (C * y) →
    Ev (fun k => spec_FindImage.l0 k s.2.2.2.2 (y : Int) W H p l u v p q s.1 s.2.1 s.2.2.1 s.2.2.2.1) (specAt W p u v l q C (C * (H - v + 1))) := by
  induction d with
  | zero =>
    intro y s hy hd hs
    refine Ev.step (fun k => by simp only [spec_FindImage.l0, wrapIn (x := (y : Int) + (v : Int)) (by omega) (by omega)]; rfl) ?_
    refine evNeg (by omega) (evRet ?_)
    rw [hs, show y = H - v + 1 by omega]
  | succ d ih =>
    intro y s hy hd hs
    refine Ev.step (fun k => by simp only [spec_FindImage.l0, wrapIn (x := (y : Int) + (v : Int)) (by omega) (by omega)]; rfl) ?_
    refine evPos (by omega) ?_
    refine spec_FindImage.ev_l1 W H p u v l q hl hby hlq hbq hW hH hp0 hp hu hv huW C hC y (by omega) _ (fun s' hs' => ?_) C 0 s (by omega) (by omega) hs
    have h := ih (y + 1) s' (by omega) (by omega) hs'
    rw [← wrapSucc y (by omega)] at h
    exact h
theorem SearchOk.nats {a b c : Int} {l : List Int} {a' b' c' : Int} {q : List Int} (h : SearchOk a b c l a' b' c' q) : ∃ W H p u v : Nat, a = W ∧ b = H ∧ c = p ∧ a' = u ∧ b' = v ∧ c' = p ∧ l.length = W * H * p ∧ q.length = u * v * p ∧ W ≤ 16 ∧ H ≤ 16 ∧ 1 ≤ p ∧ p ≤ 4 ∧ 1 ≤ u ∧ 1 ≤ v ∧ u ≤ W ∧ v ≤ H := by
  obtain ⟨hi, hj, e, h1, h2⟩ := h
  obtain ⟨W, H, p, rfl, rfl, rfl, hl, b1, b2, b3, b4, b5, b6⟩ := hi.nats
  obtain ⟨u, v, p', rfl, rfl, rfl, hlq, d1, d2, d3, d4, d5, d6⟩ := hj.nats
  obtain rfl : p' = p := by omega
  exact ⟨W, H, p', u, v, rfl, rfl, rfl, rfl, rfl, rfl, hl, hlq, b4, b5, b3, b6, d1, d2, by omega, by omega⟩
/-- What FindImage answers. -/
def findR (a b c : Int) (l : List Int) (a' b' c' : Int) (q : List Int) : Int × Int × Int × Int × Int := if SearchOk a b c l a' b' c' q then searchFold (stepB a'.toNat b'.toNat) a b c l a' b' q (0, 0, 0, 0, -1) else (0, 0, 0, 0, -1)
theorem findR_at (W H p u v : Nat) (l q : List Int) (h : SearchOk W H p l u v p q) : findR W H p l u v p q = findAt W p u v l q (W - u + 1) ((W - u + 1) * (H - v + 1)) := by
  unfold findR
  rw [if_pos h]
  unfold searchFold findAt
  simp only [Int.toNat_natCast]
theorem spec_FindImage.ev (a b c : Int) (l : List Int) (a' b' c' : Int) (q : List Int) (hl : l.length ≤ 9223372036854775806) (hq : q.length ≤ 9223372036854775806) : Ev (fun k => spec_FindImage.f k a b c l a' b' c' q) (findR a b c l a' b' c' q) := by
  have hno : ¬ SearchOk a b c l a' b' c' q → ∀ t, t = true → Ev (fun k => spec_FindImage.j0 k t a b c l a' b' c' q) (findR a b c l a' b' c' q) := fun h t ht => by
    subst ht
    unfold findR
    rw [if_neg h]
    exact Ev.step (fun k => by simp only [spec_FindImage.j0]; rfl) (evPos (by trivial) (evRet rfl))
  unfold spec_FindImage.f
  refine evBind (spec_validImage.ev a b c l hl) (evIf (fun h1 => evBind (spec_validImage.ev a' b' c' q hq) (evIf (fun h2 => evIf (fun h3 => evIf (fun h4 => ?_) (fun h4 => ?_)) (fun h3 => ?_)) (fun h2 => ?_))) (fun h1 => ?_))
  · exact hno (fun h => by have := h.2.2.2.1; omega) true rfl
  · rw [decide_eq_true_eq] at h1 h2
    by_cases h5 : b' > b
    · exact hno (fun h => by have := h.2.2.2.2; omega) _ (decide_eq_true h5)
    · have ok : SearchOk a b c l a' b' c' q := ⟨h1, h2, h3.symm, by omega, by omega⟩
      obtain ⟨W, H, p, u, v, rfl, rfl, rfl, rfl, rfl, rfl, hll, hlq, b1, b2, b3, b4, b5, b6, b7, b8⟩ := SearchOk.nats ok
      have h00 := spec_gapAt.ev W H p u v 0 0 l q hll h1.2.2.2.2 hlq h2.2.2.2.2 b1 b2 b3 b4 b5 b6 (by omega) (by omega)
      have h := spec_FindImage.ev_l0 W H p u v l q hll h1.2.2.2.2 hlq h2.2.2.2.2 b1 b2 b3 b4 b5 b6 b7 b8 (W - u + 1) rfl (H - v + 1) 0 (0, 0, (u : Int), (v : Int), gapU W p u l q 0 0 (u * v * p)) (by omega) (by omega) (by unfold specAt; rw [if_pos (Nat.mul_zero _)])
      have hpos : (W - u + 1) * (H - v + 1) ≠ 0 := Nat.mul_ne_zero (by omega) (by omega)
      have e : specAt W p u v l q (W - u + 1) ((W - u + 1) * (H - v + 1)) = findR W H p l u v p q := by
        rw [findR_at W H p u v l q ok]
        unfold specAt
        rw [if_neg hpos]
      rw [e] at h
      rw [decide_eq_false h5]
      exact Ev.step (fun k => by simp only [spec_FindImage.j0]; rfl) (evNeg (by simp) (evBind h00 h))
  · exact hno (fun h => h3 h.2.2.1.symm) true rfl
  · rw [decide_eq_true_eq] at h2
    exact hno (fun h => h2 h.2.1) true rfl
  · rw [decide_eq_true_eq] at h1
    exact hno (fun h => h1 h.1) true rfl

/-- The count, as far as it has come. -/
def cntAt (W p u v : Nat) (l q : List Int) (C n : Nat) : Int := placeFold stepC (fun x y => gapU W p u l q x y (u * v * p)) C 0 n
theorem stepC_wrap (s : Int) (x y : Nat) (n : Int) (h0 : 0 ≤ s) (h1 : s ≤ 1000) : stepC s x y n = if n = 0 then s + 1 else s := by
  unfold stepC
  rw [wrapIn (x := s + 1) (by omega) (by omega)]
theorem cntAt_bounds (W p u v : Nat) (l q : List Int) (C n : Nat) (hn : n ≤ 256) : 0 ≤ cntAt W p u v l q C n ∧ cntAt W p u v l q C n ≤ n := by
  induction n with
  | zero => exact ⟨Int.le_refl _, Int.le_refl _⟩
  | succ n ih =>
    have h := ih (by omega)
    show 0 ≤ stepC (cntAt W p u v l q C n) (n % C) (n / C) _ ∧ stepC (cntAt W p u v l q C n) (n % C) (n / C) _ ≤ ((n + 1 : Nat) : Int)
    rw [stepC_wrap _ _ _ _ h.1 (by omega)]
    split <;> omega
theorem cntAt_succ (W p u v : Nat) (l q : List Int) (C x y : Nat) (hx : x < C) (hn : C * y + x ≤ 256) : cntAt W p u v l q C (C * y + x + 1) = if gapU W p u l q x y (u * v * p) = 0 then cntAt W p u v l q C (C * y + x) + 1 else cntAt W p u v l q C (C * y + x) := by
  have h := cntAt_bounds W p u v l q C (C * y + x) hn
  have e := placeFold_at stepC (fun x y => gapU W p u l q x y (u * v * p)) C 0 x y hx
  have e1 : cntAt W p u v l q C (C * y + x + 1) = stepC (cntAt W p u v l q C (C * y + x)) x y (gapU W p u l q x y (u * v * p)) := e
  rw [e1, stepC_wrap _ _ _ _ h.1 (by omega)]
theorem toInt_zero (g : Int) : spec_toInt.f (g == 0) = some (if g = 0 then 1 else 0) := by
  unfold spec_toInt.f
  by_cases h : g = 0
  · rw [if_pos (by rw [beq_iff_eq]; exact h), if_pos h]
  · rw [if_neg (by rw [beq_iff_eq]; exact h), if_neg h]
theorem places_le {W H u v : Nat} (hW : W ≤ 16) (hH : H ≤ 16) (hu : 1 ≤ u) (hv : 1 ≤ v) {x y : Nat} (hx : x ≤ W - u + 1) (hy : y < H - v + 1) (huW : u ≤ W) (hvH : v ≤ H) : (W - u + 1) * y + x ≤ 256 := by
  have h1 : (W - u + 1) * (y + 1) ≤ 16 * 16 := Nat.mul_le_mul (by omega) (by omega)
  rw [Nat.mul_succ] at h1
  omega
theorem spec_CountImage.ev_l1 (W H p u v : Nat) (l q : List Int) (hl : l.length = W * H * p) (hby : ∀ z ∈ l, 0 ≤ z ∧ z ≤ 255) (hlq : q.length = u * v * p) (hbq : ∀ z ∈ q, 0 ≤ z ∧ z ≤ 255) (hW : W ≤ 16) (hH : H ≤ 16) (hp0 : 1 ≤ p) (hp : p ≤ 4) (hu : 1 ≤ u) (hv : 1 ≤ v) (huW : u ≤ W) (C : Nat) (hC : C = W - u + 1) (y : Nat) (hy : y + v ≤ H) (R : Int)
    (hR : ∀ s, s = cntAt W p u v l q C (C * (y + 1)) → Ev (fun k => spec_CountImage.l0 k s (wrap64 ((y : Int) + 1)) W H p l u v p q) R) (d : Nat) : ∀ x s, x ≤ C → C - x = d → s = cntAt W p u v l q C (C * y + x) →
    Ev (fun k => spec_CountImage.l1 k s (y : Int) (x : Int) W H p l u v p q) R := by
  induction d with
  | zero =>
    intro x s hx hd hs
    refine Ev.step (fun k => by simp only [spec_CountImage.l1, wrapIn (x := (x : Int) + (u : Int)) (by omega) (by omega)]; rfl) ?_
    refine evNeg (by omega) (hR s ?_)
    rw [hs, show C * y + x = C * (y + 1) by rw [Nat.mul_succ]; omega]
  | succ d ih =>
    intro x s hx hd hs
    have hpl : C * y + x ≤ 256 := by rw [hC]; exact places_le hW hH hu hv (by omega) (by omega) huW (by omega)
    have hg := spec_gapAt.ev W H p u v x y l q hl hby hlq hbq hW hH hp0 hp hu hv (by omega) hy
    have hsu := cntAt_succ W p u v l q C x y (by omega) hpl
    have hb := cntAt_bounds W p u v l q C (C * y + x) hpl
    rw [← hs] at hsu hb
    refine Ev.step (fun k => by simp only [spec_CountImage.l1, wrapIn (x := (x : Int) + (u : Int)) (by omega) (by omega), wrapSucc x (by omega)]; rfl) ?_
    refine evPos (by omega) (evBind hg (evFix (toInt_zero _) ?_))
    have h := ih (x + 1) _ (by omega) (by omega) hsu.symm
    have e : wrap64 (s + if gapU W p u l q x y (u * v * p) = 0 then 1 else 0) = if gapU W p u l q x y (u * v * p) = 0 then s + 1 else s := by
      split
      · exact wrapIn (by omega) (by omega)
      · rw [Int.add_zero]; exact wrapIn (by omega) (by omega)
    rw [e]
    exact h
theorem spec_CountImage.ev_l0 (W H p u v : Nat) (l q : List Int) (hl : l.length = W * H * p) (hby : ∀ z ∈ l, 0 ≤ z ∧ z ≤ 255) (hlq : q.length = u * v * p) (hbq : ∀ z ∈ q, 0 ≤ z ∧ z ≤ 255) (hW : W ≤ 16) (hH : H ≤ 16) (hp0 : 1 ≤ p) (hp : p ≤ 4) (hu : 1 ≤ u) (hv : 1 ≤ v) (huW : u ≤ W) (hvH : v ≤ H) (C : Nat) (hC : C = W - u + 1) (d : Nat) : ∀ y s, y ≤ H - v + 1 → H - v + 1 - y = d → s = cntAt W p u v l q C (C * y) →
    Ev (fun k => spec_CountImage.l0 k s (y : Int) W H p l u v p q) (cntAt W p u v l q C (C * (H - v + 1))) := by
  induction d with
  | zero =>
    intro y s hy hd hs
    refine Ev.step (fun k => by simp only [spec_CountImage.l0, wrapIn (x := (y : Int) + (v : Int)) (by omega) (by omega)]; rfl) ?_
    refine evNeg (by omega) (evRet ?_)
    rw [hs, show y = H - v + 1 by omega]
  | succ d ih =>
    intro y s hy hd hs
    refine Ev.step (fun k => by simp only [spec_CountImage.l0, wrapIn (x := (y : Int) + (v : Int)) (by omega) (by omega)]; rfl) ?_
    refine evPos (by omega) ?_
    refine spec_CountImage.ev_l1 W H p u v l q hl hby hlq hbq hW hH hp0 hp hu hv huW C hC y (by omega) _ (fun s' hs' => ?_) C 0 s (by omega) (by omega) hs
    have h := ih (y + 1) s' (by omega) (by omega) hs'
    rw [← wrapSucc y (by omega)] at h
    exact h
/-- What CountImage answers. -/
def countR (a b c : Int) (l : List Int) (a' b' c' : Int) (q : List Int) : Int := if SearchOk a b c l a' b' c' q then searchFold stepC a b c l a' b' q 0 else -1
theorem countR_at (W H p u v : Nat) (l q : List Int) (h : SearchOk W H p l u v p q) : countR W H p l u v p q = cntAt W p u v l q (W - u + 1) ((W - u + 1) * (H - v + 1)) := by
  unfold countR
  rw [if_pos h]
  unfold searchFold cntAt
  simp only [Int.toNat_natCast]
theorem impl_CountImage.val (a b c : Int) (l : List Int) (a' b' c' : Int) (q : List Int) : impl_CountImage.f a b c l a' b' c' q = some (countR a b c l a' b' c' q) := rfl
theorem spec_CountImage.ev (a b c : Int) (l : List Int) (a' b' c' : Int) (q : List Int) (hl : l.length ≤ 9223372036854775806) (hq : q.length ≤ 9223372036854775806) : Ev (fun k => spec_CountImage.f k a b c l a' b' c' q) (countR a b c l a' b' c' q) := by
  have hf := spec_FindImage.ev a b c l a' b' c' q hl hq
  unfold spec_CountImage.f
  by_cases h : SearchOk a b c l a' b' c' q
  · obtain ⟨W, H, p, u, v, rfl, rfl, rfl, rfl, rfl, rfl, hll, hlq, b1, b2, b3, b4, b5, b6, b7, b8⟩ := SearchOk.nats h
    have hby := h.1.2.2.2.2
    have hbq := h.2.1.2.2.2.2
    obtain ⟨m, hm⟩ : ∃ m, (W - u + 1) * (H - v + 1) = m + 1 := ⟨(W - u + 1) * (H - v + 1) - 1, by have : 0 < (W - u + 1) * (H - v + 1) := Nat.mul_pos (by omega) (by omega); omega⟩
    have hleast := findAt_least W p u v l q hby hbq (W - u + 1) m
    rw [← hm, ← findR_at W H p u v l q h] at hleast
    refine evBind hf (evNeg (by omega) ?_)
    have h2 := spec_CountImage.ev_l0 W H p u v l q hll hby hlq hbq b1 b2 b3 b4 b5 b6 b7 b8 (W - u + 1) rfl (H - v + 1) 0 0 (by omega) (by omega) (by rw [Nat.mul_zero]; rfl)
    rw [← countR_at W H p u v l q h] at h2
    exact h2
  · have e1 : findR a b c l a' b' c' q = (0, 0, 0, 0, -1) := by unfold findR; rw [if_neg h]
    have e2 : countR a b c l a' b' c' q = -1 := by unfold countR; rw [if_neg h]
    rw [e1] at hf
    rw [e2]
    exact evBind hf (evPos (by show (-1 : Int) < 0; omega) (evRet rfl))

theorem laws_eqIntS.ev_l0 (a b : List Int) (hab : a.length = b.length) (hl : a.length ≤ 9223372036854775807) (d : Nat) : ∀ i, i ≤ a.length → a.length - i = d →
    Ev (fun k => laws_eqIntS.l0 k a b (i : Int)) (decide (a.drop i = b.drop i)) := by
  induction d with
  | zero =>
    intro i hi hd
    refine Ev.step (fun k => by simp only [laws_eqIntS.l0]; rfl) (evNeg (by omega) (evRet ?_))
    rw [List.drop_of_length_le (by omega), List.drop_of_length_le (by omega)]
    rfl
  | succ d ih =>
    intro i hi hd
    have hw : wrap64 ((i : Int) + 1) = ((i + 1 : Nat) : Int) := wrapSucc i (by omega)
    refine Ev.step (fun k => by simp only [laws_eqIntS.l0, hw]; rfl) (evPos (by omega) (evPos (by omega) (evPos (by omega) ?_)))
    rw [decide_drop_eq a b i (by omega) (by omega), rdN a i (by omega), rdN b i (by omega)]
    refine evIf (fun h => ?_) (fun h => evRet ?_)
    · rw [decide_eq_true h, Bool.true_and]
      exact ih (i + 1) (by omega) (by omega)
    · rw [decide_eq_false h, Bool.false_and]
theorem laws_eqIntS.ev (a b : List Int) (hl : a.length ≤ 9223372036854775807) : Ev (fun k => laws_eqIntS.f k a b) (decide (a = b)) := by
  unfold laws_eqIntS.f
  refine evIf (fun h => ?_) (fun h => evRet ?_)
  · have := laws_eqIntS.ev_l0 a b (by omega) hl a.length 0 (by omega) (by omega)
    simpa using this
  · rw [eq_comm, decide_eq_false_iff_not]
    intro hab
    exact h (by rw [hab])

theorem laws_toIntS.ev_l0 (l : List Int) (hl : l.length ≤ 9223372036854775806) (d : Nat) : ∀ i, i ≤ l.length → l.length - i = d →
    Ev (fun k => laws_toIntS.l0 k l (l.take i ++ List.replicate (l.length - i) 0) (i : Int)) l := by
  induction d with
  | zero =>
    intro i hi hd
    refine Ev.step (fun k => by simp only [laws_toIntS.l0]; rfl) (evNeg (by omega) (evRet ?_))
    rw [List.take_of_length_le (by omega), hd]
    simp
  | succ d ih =>
    intro i hi hd
    have hw : wrap64 ((i : Int) + 1) = ((i + 1 : Nat) : Int) := wrapSucc i (by omega)
    have hs : (l.take i ++ List.replicate (l.length - i) 0).set (i : Int).toNat (rd l i) = l.take (i + 1) ++ List.replicate (l.length - (i + 1)) 0 := by
      rw [Int.toNat_natCast, List.set_append_right _ _ (by simp; omega), List.length_take, show i - min i l.length = 0 by omega, show l.length - i = (l.length - (i + 1)) + 1 by omega, List.replicate_succ, List.set_cons_zero, rdN l i (by omega), take_snocN l i (by omega), List.append_assoc]
      rfl
    refine Ev.step (fun k => by simp only [laws_toIntS.l0, hw, hs]; rfl) (evPos (by omega) (evPos (by omega) (evPos (by simp; omega) ?_)))
    exact ih (i + 1) (by omega) (by omega)
theorem laws_toIntS.ev (l : List Int) (hl : l.length * 8 ≤ 140737488351232) : Ev (fun k => laws_toIntS.f k l) l := by
  have h := laws_toIntS.ev_l0 l (by omega) l.length 0 (by omega) (by omega)
  unfold laws_toIntS.f
  refine evPos (by omega) (evPos (by rw [Int.toNat_natCast]; omega) ?_)
  rw [Int.toNat_natCast]
  simpa using h

theorem laws_szImage.val (a b c : Int) (l : List Int) (m : Int) (hm0 : 0 ≤ m) (hm1 : m ≤ 1048576) (hl : l.length ≤ maxLen) : laws_szImage.f a b c l m = some (if m < l.length then -1 else m - l.length) := by
  simp only [maxLen] at hl
  unfold laws_szImage.f laws_szIntS.f
  rw [wrapIn (x := m - (l.length : Int)) (by omega) (by omega)]
  by_cases h : m < l.length
  · rw [if_pos (by omega), if_pos h]
    simp
  · rw [if_neg (by omega), if_neg h]
    simp only [Option.bind_some]
    rw [if_neg (by omega)]
theorem laws_toImage.ev (a b c : Int) (l : List Int) (hl : l.length * 8 ≤ 140737488351232) : Ev (fun k => laws_toImage.f k a b c l) (a, b, c, l) := by
  unfold laws_toImage.f
  exact evBind (laws_toIntS.ev l hl) (evRet rfl)
theorem laws_eqImage.refl (a b c : Int) (l : List Int) (hl : l.length ≤ 9223372036854775807) : Ev (fun k => laws_eqImage.f k a b c l a b c l) true := by
  have h := laws_eqIntS.ev l l hl
  rw [decide_eq_true rfl] at h
  unfold laws_eqImage.f
  exact evPos rfl (evPos rfl (evPos rfl (evBind h (evPos rfl (evRet rfl)))))
theorem FnExactCountImage : laws_FnExactCountImage.Pure := by
  intro a b c l a' b' c' q _ _ _ hl _ _ _ _ hq _
  refine Ev.rounds ?_
  unfold laws_FnExactCountImage.f
  refine evFix (laws_szImage.val a b c l 1048576 (by omega) (by omega) hl) ?_
  by_cases hlt : (1048576 : Int) < l.length
  · rw [if_pos hlt]
    exact evPos (by omega) (evRet rfl)
  rw [if_neg hlt]
  have hb : l.length ≤ 1048576 := by omega
  refine evNeg (by omega) (evFix (laws_szImage.val a' b' c' q (1048576 - l.length) (by omega) (by omega) hq) ?_)
  by_cases hlt2 : (1048576 : Int) - l.length < q.length
  · rw [if_pos hlt2]
    exact evPos (by omega) (evRet rfl)
  rw [if_neg hlt2]
  have hb2 : q.length ≤ 1048576 := by omega
  have h1 := laws_toImage.ev a b c l (by omega)
  have h2 := laws_toImage.ev a' b' c' q (by omega)
  have h3 := spec_CountImage.ev a b c l a' b' c' q (by omega) (by omega)
  have h4 := impl_CountImage.val a b c l a' b' c' q
  have heq := laws_eqImage.refl a b c l (by omega)
  have heq2 := laws_eqImage.refl a' b' c' q (by omega)
  refine evNeg (by omega) (evBind h1 (evBind h2 (evBind h3 (evBind h1 (evBind h2 (evFix h4 (evPos rfl ?_)))))))
  exact evBind h1 (evBind heq (evPos rfl (evBind h2 (evBind heq2 (evPos rfl (evRet rfl))))))

end Go.Proofs.Ytmaiifghplcjeaa.Pure
