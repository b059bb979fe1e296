/- FnExactEqualizeImage answers true for every image: the program's EqualizeImage is the reference's, and its result is memory of its own. No condition. -/
import Derived.Test.YtonolnojpejgnaaPrintHimplEqualizeImage
import Derived.Test.YtonolnojpejgnaaPrintHx0
import Derived.Test.YtonolnojpejgnaaPrintHx2
import Derived.Test.YtonolnojpejgnaaPrintLFnExactEqualizeImage
import Derived.Test.YtonolnojpejgnaaPrintR0x0
import Derived.Test.YtonolnojpejgnaaPrintR1x0
import Derived.Test.YtonolnojpejgnaaPrintR1x1
import Derived.Test.YtonolnojpejgnaaPrintR1x2
import Derived.Test.YtonolnojpejgnaaPrintR1x3
namespace Go.Proofs.Ytonolnojpejgnaa.Pure
open Go.RowKit Go.Proofs.Ytonolnojpejgnaa.Print Go.Proofs.YtonolnojpejgnaaW.PrintWords Go.Proofs.YtonolnojpejgnaaW.PrintLast Go.Proofs.YtonolnojpejgnaaW.PrintMore
set_option linter.unusedVariables false
set_option linter.unusedSimpArgs false
theorem spec_copyInts.val (l : List Int) (h : l.length < 17592186044416) : spec_copyInts.f l = some l := by
  unfold spec_copyInts.f
  simp [h]

theorem spec_copyImage.val (a b c : Int) (l : List Int) (h : l.length < 17592186044416) : spec_copyImage.f a b c l = some (a, b, c, l) := by
  unfold spec_copyImage.f
  rw [spec_copyInts.val l h]
  rfl

theorem inRange_val (a lo hi : Int) : spec_inRange.f a lo hi = some (decide (lo ≤ a ∧ a ≤ hi)) := by
  unfold spec_inRange.f
  split
  · rename_i h; simp [h]
  · rename_i h; simp [h]

theorem rdN (l : List Int) (k : Nat) (h : k < l.length) : rd l (k : Int) = l[k] := by
  simp [rd, List.getD_eq_getElem?_getD, List.getElem?_eq_getElem h]
theorem drop_cons_ {α : Type} (l : List α) (k : Nat) (h : k < l.length) : l.drop k = l[k] :: l.drop (k + 1) := List.drop_eq_getElem_cons h
theorem take_snocN {α : Type} (l : List α) (k : Nat) (h : k < l.length) : l.take (k + 1) = l.take k ++ [l[k]] := by
  rw [List.take_succ_eq_append_getElem h]
/-- Two lists of one length, from a place on. -/
theorem decide_drop_eq {α : Type} [DecidableEq α] (a b : List α) (i : Nat) (h1 : i < a.length) (h2 : i < b.length) : decide (a.drop i = b.drop i) = (decide (a[i] = b[i]) && decide (a.drop (i + 1) = b.drop (i + 1))) := by
  rw [drop_cons_ a i h1, drop_cons_ b i h2]
  rw [Bool.eq_iff_iff]
  simp only [decide_eq_true_eq, Bool.and_eq_true, List.cons.injEq]

/-- All numbers of a list lie in a range. -/
def allB (lo hi : Int) (l : List Int) : Bool := l.all fun x => decide (lo ≤ x ∧ x ≤ hi)
theorem allB_iff (lo hi : Int) (l : List Int) : allB lo hi l = true ↔ ∀ x ∈ l, lo ≤ x ∧ x ≤ hi := by
  unfold allB
  rw [List.all_eq_true]
  simp only [decide_eq_true_eq]
theorem spec_allIn.ev_l0 (l : List Int) (lo hi : Int) (hl : l.length ≤ 9223372036854775806) (d : Nat) : ∀ i, i ≤ l.length → l.length - i = d →
    Ev (fun k => spec_allIn.l0 k l lo hi (i : Int)) (allB lo hi (l.drop i)) := by
  induction d with
  | zero =>
    intro i hi' hd
    refine Ev.step (fun k => by simp only [spec_allIn.l0]; rfl) (evNeg (by omega) (evRet ?_))
    rw [List.drop_of_length_le (by omega)]
    rfl
  | succ d ih =>
    intro i hi' hd
    have hw : wrap64 ((i : Int) + 1) = ((i + 1 : Nat) : Int) := wrapSucc i (by omega)
    refine Ev.step (fun k => by simp only [spec_allIn.l0, hw]; rfl) (evPos (by omega) (evPos (by omega) ?_))
    rw [rdN l i (by omega), drop_cons_ l i (by omega)]
    have hr : spec_inRange.f l[i] lo hi = some (decide (lo ≤ l[i] ∧ l[i] ≤ hi)) := by
      unfold spec_inRange.f
      split
      · rename_i h; simp [h]
      · rename_i h; simp [h]
    have e : allB lo hi (l[i] :: l.drop (i + 1)) = (decide (lo ≤ l[i] ∧ l[i] ≤ hi) && allB lo hi (l.drop (i + 1))) := by
      unfold allB
      rw [List.all_cons]
    rw [e]
    refine evFix hr (evIf (fun h => ?_) (fun h => evRet ?_))
    · rw [h, Bool.true_and]
      exact ih (i + 1) (by omega) (by omega)
    · rw [Bool.eq_false_iff.mpr h, Bool.false_and]
theorem spec_allIn.ev (l : List Int) (lo hi : Int) (hl : l.length ≤ 9223372036854775806) : Ev (fun k => spec_allIn.f k l lo hi) (allB lo hi l) := by
  have := spec_allIn.ev_l0 l lo hi hl l.length 0 (by omega) (by omega)
  unfold spec_allIn.f
  simpa using this

theorem spec_validShape.val (a b c : Int) : spec_validShape.f a b c = some (decide ((1 ≤ a ∧ a ≤ 16) ∧ (1 ≤ b ∧ b ≤ 16) ∧ (1 ≤ c ∧ c ≤ 4))) := by
  unfold spec_validShape.f
  rw [inRange_val, inRange_val, inRange_val]
  simp only [Option.bind_some, decide_eq_true_eq]
  by_cases h1 : 1 ≤ a ∧ a ≤ 16
  · rw [if_pos h1]
    by_cases h2 : 1 ≤ b ∧ b ≤ 16
    · rw [if_pos h2]
      congr 1
      rw [Bool.eq_iff_iff]
      simp only [decide_eq_true_eq]
      exact ⟨fun h => ⟨h1, h2, h⟩, fun h => h.2.2⟩
    · rw [if_neg h2, decide_eq_false (fun h => h2 h.2.1)]
  · rw [if_neg h1, decide_eq_false (fun h => h1 h.1)]
theorem allB_bytes (l : List Int) : allB 0 255 l = decide (∀ x ∈ l, 0 ≤ x ∧ x ≤ 255) := by
  rw [Bool.eq_iff_iff, allB_iff, decide_eq_true_eq]
theorem spec_validImage.ev (a b c : Int) (l : List Int) (hl : l.length ≤ 9223372036854775806) : Ev (fun k => spec_validImage.f k a b c l) (decide (ImgOk a b c l)) := by
  unfold spec_validImage.f
  refine evFix (spec_validShape.val a b c) ?_
  by_cases h : (1 ≤ a ∧ a ≤ 16) ∧ (1 ≤ b ∧ b ≤ 16) ∧ (1 ≤ c ∧ c ≤ 4)
  · refine evPos (decide_eq_true h) ?_
    rw [shape_wrap h.1 h.2.1 h.2.2]
    by_cases h2 : (l.length : Int) = a * b * c
    · refine evPos h2 ?_
      have h3 := spec_allIn.ev l 0 255 hl
      refine evBind h3 (evRet ?_)
      rw [allB_bytes, Bool.eq_iff_iff]
      simp only [decide_eq_true_eq]
      exact ⟨fun h3 => ⟨h.1, h.2.1, h.2.2, h2, h3⟩, fun hh => hh.2.2.2.2⟩
    · exact evNeg h2 (evRet (decide_eq_false (fun hh : ImgOk a b c l => h2 hh.2.2.2.1)).symm)
  · exact evNeg (by rw [decide_eq_false h]; simp) (evRet (decide_eq_false (fun hh : ImgOk a b c l => h ⟨hh.1, hh.2.1, hh.2.2.1⟩)).symm)

/-- How often each number of 0..255 stands in a list. -/
def histL (l : List Int) : List Int := (List.range 256).map fun (n : Nat) => ((l.count (n : Int) : Nat) : Int)
theorem histL_length (l : List Int) : (histL l).length = 256 := by simp [histL]
theorem histL_get (l : List Int) (n : Nat) (h : n < (histL l).length) : (histL l)[n] = ((l.count (n : Int) : Nat) : Int) := by simp [histL]
theorem histL_rd (l : List Int) (n : Nat) (h : n < 256) : rd (histL l) (n : Int) = ((l.count (n : Int) : Nat) : Int) := by
  rw [rdN _ n (by rw [histL_length]; exact h), histL_get]
theorem histL_nil : histL [] = List.replicate 256 0 := by
  apply List.ext_getElem
  · rw [histL_length, List.length_replicate]
  · intro j h1 h2
    rw [histL_get, List.getElem_replicate]
    rfl
theorem histL_snoc (l : List Int) (x : Int) (h0 : 0 ≤ x) (h1 : x ≤ 255) : (histL l).set x.toNat (rd (histL l) x + 1) = histL (l ++ [x]) := by
  obtain ⟨m, rfl⟩ := Int.eq_ofNat_of_zero_le h0
  rw [Int.toNat_natCast, histL_rd l m (by omega)]
  apply List.ext_getElem
  · rw [List.length_set, histL_length, histL_length]
  · intro j h2 h3
    rw [List.length_set, histL_length] at h2
    rw [List.getElem_set, histL_get, histL_get, List.count_append]
    by_cases e : m = j
    · subst e
      rw [if_pos rfl, List.count_singleton_self]
      omega
    · rw [if_neg e, List.count_singleton, if_neg (by simp; omega)]
      omega
theorem hist_wrap (l : List Int) (x : Int) (h0 : 0 ≤ x) (h1 : x ≤ 255) (hl : l.length ≤ 1000000) : wrap64 (rd (histL l) x + 1) = rd (histL l) x + 1 := by
  obtain ⟨m, rfl⟩ := Int.eq_ofNat_of_zero_le h0
  have hc := List.count_le_length (l := l) (a := (m : Int))
  rw [histL_rd l m (by omega)]
  exact wrapIn (by omega) (by omega)
theorem spec_histogram.ev_l0 (l : List Int) (hb : ∀ x ∈ l, 0 ≤ x ∧ x ≤ 255) (hl : l.length ≤ 1000000) (d : Nat) : ∀ i, i ≤ l.length → l.length - i = d →
    Ev (fun k => spec_histogram.l0 k l (histL (l.take i)) (i : Int)) (histL l) := by
  induction d with
  | zero =>
    intro i hi hd
    refine Ev.step (fun k => by simp only [spec_histogram.l0]; rfl) (evNeg (by omega) (evRet ?_))
    rw [List.take_of_length_le (by omega)]
  | succ d ih =>
    intro i hi hd
    have hlt : i < l.length := by omega
    have h1 := hb l[i] (List.getElem_mem hlt)
    have hs := histL_snoc (l.take i) l[i] h1.1 h1.2
    rw [← take_snocN l i hlt] at hs
    have hw := hist_wrap (l.take i) l[i] h1.1 h1.2 (by rw [List.length_take]; omega)
    refine Ev.step (fun k => by simp only [spec_histogram.l0, rdN l i hlt, wrapSucc i (by omega), hw, hs]; rfl) ?_
    refine evPos (by omega) (evPos (by omega) (evPos h1.1 (evPos (by rw [histL_length]; omega) ?_)))
    exact ih (i + 1) (by omega) (by omega)
theorem spec_histogram.ev (l : List Int) (hb : ∀ x ∈ l, 0 ≤ x ∧ x ≤ 255) (hl : l.length ≤ 1000000) : Ev (fun k => spec_histogram.f k l) (histL l) := by
  have h := spec_histogram.ev_l0 l hb hl l.length 0 (by omega) (by omega)
  unfold spec_histogram.f
  refine evPos (by omega) ?_
  rw [← histL_nil]
  exact h
theorem impl_histogram.ev_l0 (l : List Int) (hb : ∀ x ∈ l, 0 ≤ x ∧ x ≤ 255) (hl : l.length ≤ 1000000) (d : Nat) : ∀ i, i ≤ l.length → l.length - i = d →
    Ev (fun k => impl_histogram.l0 k (histL (l.take i)) l (l.length : Int) (i : Int)) (histL l) := by
  induction d with
  | zero =>
    intro i hi hd
    refine Ev.step (fun k => by simp only [impl_histogram.l0]; rfl) (evNeg (by omega) (evRet ?_))
    rw [List.take_of_length_le (by omega)]
  | succ d ih =>
    intro i hi hd
    have hlt : i < l.length := by omega
    have h1 := hb l[i] (List.getElem_mem hlt)
    have hs := histL_snoc (l.take i) l[i] h1.1 h1.2
    rw [← take_snocN l i hlt] at hs
    have hw := hist_wrap (l.take i) l[i] h1.1 h1.2 (by rw [List.length_take]; omega)
    refine Ev.step (fun k => by simp only [impl_histogram.l0, rdN l i hlt, wrapSucc i (by omega), hw, hs]; rfl) ?_
    refine evPos (by omega) (evPos (by omega) (evPos (by omega) (evPos h1.1 (evPos (by rw [histL_length]; omega) ?_))))
    exact ih (i + 1) (by omega) (by omega)
theorem impl_histogram.ev (a b c : Int) (l : List Int) (hb : ∀ x ∈ l, 0 ≤ x ∧ x ≤ 255) (hl : l.length ≤ 1000000) : Ev (fun k => impl_histogram.f k a b c l) (histL l) := by
  have h := impl_histogram.ev_l0 l hb hl l.length 0 (by omega) (by omega)
  unfold impl_histogram.f
  refine evPos (by omega) ?_
  rw [← histL_nil]
  exact h
/-- How many numbers are less than n. -/
def lessC (l : List Int) (n : Int) : Nat := l.countP (fun x => decide (x < n))
def topL (l : List Int) : Int := maxUpto l l.length
/-- How many numbers are not the greatest one. -/
def restC (l : List Int) : Nat := l.length - l.count (topL l)
def eqNum (l : List Int) (x : Int) : Int := 255 * (lessC l x : Int) / (restC l : Int)
def eqData (l : List Int) : List Int := if restC l = 0 then l else l.map (eqNum l)
theorem mx_ge (a b : Int) : a ≤ mx a b ∧ b ≤ mx a b := by unfold mx; split <;> omega
theorem mx_or (a b : Int) : mx a b = a ∨ mx a b = b := by unfold mx; split <;> simp
theorem maxUpto_ge (l : List Int) (k : Nat) : ∀ i : Nat, i < k → rd l (i : Int) ≤ maxUpto l k := by
  induction k with
  | zero => intro i h; omega
  | succ k ih =>
    intro i h
    have h1 := mx_ge (maxUpto l k) (rd l (k : Int))
    show rd l (i : Int) ≤ mx (maxUpto l k) (rd l (k : Int))
    by_cases e : i = k
    · subst e; exact h1.2
    · exact Int.le_trans (ih i (by omega)) h1.1
theorem maxUpto_mem (l : List Int) (k : Nat) (h0 : 0 < l.length) (hk : k ≤ l.length) : maxUpto l k ∈ l := by
  induction k with
  | zero =>
    have : rd l ((0 : Nat) : Int) = l[0] := rdN l 0 h0
    show rd l 0 ∈ l
    rw [show (0 : Int) = ((0 : Nat) : Int) from rfl, this]
    exact List.getElem_mem h0
  | succ k ih =>
    show mx (maxUpto l k) (rd l (k : Int)) ∈ l
    rcases mx_or (maxUpto l k) (rd l (k : Int)) with e | e
    · rw [e]; exact ih (by omega)
    · rw [e, rdN l k (by omega)]; exact List.getElem_mem _
theorem topL_mem (l : List Int) (h : 0 < l.length) : topL l ∈ l := maxUpto_mem l l.length h (Nat.le_refl _)
theorem topL_ge (l : List Int) (x : Int) (h : x ∈ l) : x ≤ topL l := by
  obtain ⟨i, hi, rfl⟩ := List.getElem_of_mem h
  rw [← rdN l i hi]
  exact maxUpto_ge l l.length i hi
theorem lessC_succ (l : List Int) (n : Int) : lessC l (n + 1) = lessC l n + l.count n := by
  unfold lessC
  induction l with
  | nil => rfl
  | cons a t ih =>
    rw [List.countP_cons, List.countP_cons, List.count_cons, ih]
    by_cases h1 : a < n
    · rw [if_pos (by simp; omega), if_pos (by simp; omega), if_neg (by simp; omega)]; omega
    · by_cases h2 : a = n
      · rw [if_pos (by simp; omega), if_neg (by simp; omega), if_pos (by simp; omega)]; omega
      · rw [if_neg (by simp; omega), if_neg (by simp; omega), if_neg (by simp; omega)]; omega
theorem lessC_le (l : List Int) (n : Int) : lessC l n ≤ l.length := List.countP_le_length
theorem lessC_zero (l : List Int) (h : ∀ x ∈ l, 0 ≤ x) : lessC l 0 = 0 := by
  unfold lessC
  rw [List.countP_eq_zero]
  intro x hx
  have := h x hx
  simp
  omega
theorem lessC_top (l : List Int) : lessC l (topL l) = restC l := by
  have key : ∀ (m : Int) (t : List Int), (∀ x ∈ t, x ≤ m) → t.countP (fun x => decide (x < m)) + t.count m = t.length := by
    intro m t
    induction t with
    | nil => intro _; rfl
    | cons a t ih =>
      intro h
      have h1 := ih (fun x hx => h x (by simp [hx]))
      have h2 := h a (by simp)
      rw [List.countP_cons, List.count_cons, List.length_cons]
      by_cases e : a = m
      · rw [if_neg (by simp; omega), if_pos (by simp; omega)]; omega
      · rw [if_pos (by simp; omega), if_neg (by simp; omega)]; omega
  have := key (topL l) l (topL_ge l)
  unfold restC lessC
  omega
theorem lessC_mono (l : List Int) (m n : Int) (h : m ≤ n) : lessC l m ≤ lessC l n := by
  unfold lessC
  refine List.countP_mono_left fun x _ hx => ?_
  simp only [decide_eq_true_eq] at hx ⊢
  omega
theorem eqNum_bounds (l : List Int) (x : Int) (hx : x ∈ l) (h : restC l ≠ 0) : 0 ≤ eqNum l x ∧ eqNum l x ≤ 255 := by
  have h1 := lessC_mono l x (topL l) (topL_ge l x hx)
  rw [lessC_top] at h1
  unfold eqNum
  refine ⟨Int.ediv_nonneg (by omega) (by omega), ?_⟩
  have : 255 * (lessC l x : Int) / (restC l : Int) ≤ 255 * (restC l : Int) / (restC l : Int) := Int.ediv_le_ediv (by omega) (by omega)
  rwa [Int.mul_ediv_cancel _ (by omega)] at this
theorem eqLess_hist (l : List Int) (hb : ∀ x ∈ l, 0 ≤ x ∧ x ≤ 255) (hl : l.length ≤ 1024) (n : Nat) (hn : n ≤ 256) : eqLess (histL l) n = (lessC l (n : Int) : Int) := by
  induction n with
  | zero => rw [show ((0 : Nat) : Int) = 0 from rfl, lessC_zero l (fun x hx => (hb x hx).1)]; rfl
  | succ n ih =>
    have h1 := lessC_succ l (n : Int)
    have h2 := lessC_le l ((n : Int) + 1)
    show wrap64 (eqLess (histL l) n + rd (histL l) (n : Int)) = _
    rw [ih (by omega), histL_rd l n (by omega), show ((n + 1 : Nat) : Int) = (n : Int) + 1 by omega, h1, wrapIn (by omega) (by omega)]
    omega
theorem eqVal_hist (l : List Int) (hb : ∀ x ∈ l, 0 ≤ x ∧ x ≤ 255) (hl : l.length ≤ 1024) (n : Nat) (hn : n ≤ 256) (h : restC l ≠ 0) : eqVal (histL l) (restC l : Int) n = eqNum l (n : Int) := by
  have h1 := lessC_le l (n : Int)
  have h2 : (255 * (lessC l (n : Int) : Int)).tdiv (restC l : Int) = 255 * (lessC l (n : Int) : Int) / (restC l : Int) := Int.tdiv_eq_ediv_of_nonneg (by omega)
  have h3 : 0 ≤ 255 * (lessC l (n : Int) : Int) / (restC l : Int) := Int.ediv_nonneg (by omega) (by omega)
  have h4 : 255 * (lessC l (n : Int) : Int) / (restC l : Int) ≤ 255 * (lessC l (n : Int) : Int) := Int.ediv_le_self _ (by omega)
  unfold eqVal eqNum
  rw [eqLess_hist l hb hl n hn, wrapIn (x := 255 * (lessC l (n : Int) : Int)) (by omega) (by omega), h2, wrapIn (by omega) (by omega)]
theorem rd_map_range (v : Nat → Int) (N n : Nat) (h : n < N) : rd ((List.range N).map v) (n : Int) = v n := by
  rw [rdN _ n (by simp; exact h)]
  simp
theorem eqTab_rd (cs : List Int) (o : Int) (n : Nat) (h : n < 256) : rd (eqTab cs o 256) (n : Int) = eqVal cs o n := by
  unfold eqTab
  rw [show 256 - 256 = 0 from rfl, List.replicate_zero, List.append_nil, rd_map_range _ _ _ h]
theorem rest_wrap (l : List Int) (hb : ∀ x ∈ l, 0 ≤ x ∧ x ≤ 255) (hl : l.length ≤ 1024) (h0 : 0 < l.length) : wrap64 ((l.length : Int) - rd (histL l) (topL l)) = (restC l : Int) := by
  obtain ⟨m, hm⟩ := Int.eq_ofNat_of_zero_le (hb _ (topL_mem l h0)).1
  have h1 := (hb _ (topL_mem l h0)).2
  have h2 := List.count_le_length (l := l) (a := topL l)
  unfold restC
  rw [hm] at h1 h2 ⊢
  rw [histL_rd l m (by omega), wrapIn (by omega) (by omega)]
  omega
theorem impl_EqualizeImage.ev (a b c : Int) (l : List Int) : Ev (fun k => impl_EqualizeImage.f k a b c l) (if EqOk a b c l then (a, b, c, eqData l) else (0, 0, 0, [])) := by
  unfold impl_EqualizeImage.f
  by_cases hk : EqOk a b c l
  · rw [if_pos hk]
    have hb := hk.1.2.2.2.2
    have hl := hk.1.len
    have e : eqOut a b c l (histL l) = some (a, b, c, eqData l) := by
      have ht := hb _ (topL_mem l hl.1)
      unfold eqOut slices_Max_int_int.f
      rw [if_pos hl.1]
      show (if (histL l).length = 256 ∧ 0 ≤ topL l ∧ topL l ≤ 255 then _ else _) = _
      rw [if_pos ⟨histL_length l, ht.1, ht.2⟩]
      show (if wrap64 ((l.length : Int) - rd (histL l) (topL l)) = 0 then some (a, b, c, l) else some (a, b, c, l.map (rd (eqTab (histL l) (wrap64 ((l.length : Int) - rd (histL l) (topL l))) 256)))) = _
      rw [rest_wrap l hb hl.2 hl.1]
      unfold eqData
      by_cases h0 : restC l = 0
      · rw [if_pos (by omega), if_pos h0]
      · rw [if_neg (by omega), if_neg h0]
        congr 4
        refine List.map_congr_left fun x hx => ?_
        obtain ⟨n, rfl⟩ := Int.eq_ofNat_of_zero_le (hb x hx).1
        have := (hb _ hx).2
        rw [eqTab_rd _ _ n (by omega), eqVal_hist l hb hl.2 n (by omega) h0]
    refine evPos hk (evBind (impl_histogram.ev a b c l hb (by omega)) ?_)
    simp only [e]
    exact evRet rfl
  · rw [if_neg hk]
    exact evNeg hk (evRet rfl)
/-- The reference's table, as far as it is filled. -/
def tabUpto (v : Nat → Int) (n : Nat) : List Int := (List.range n).map v ++ List.replicate (256 - n) 0
theorem tabUpto_length (v : Nat → Int) (n : Nat) (h : n ≤ 256) : (tabUpto v n).length = 256 := by simp [tabUpto]; omega
theorem tabUpto_set (v : Nat → Int) (n : Nat) (h : n < 256) : (tabUpto v n).set ((n : Int)).toNat (v n) = tabUpto v (n + 1) := by
  unfold tabUpto
  have e : ((List.range n).map v).length = n := by simp
  rw [Int.toNat_natCast, List.set_append_right _ _ (by omega), e, Nat.sub_self, show 256 - n = (256 - (n + 1)) + 1 by omega, List.replicate_succ, List.set_cons_zero, List.range_succ, List.map_append, List.append_assoc]
  rfl
theorem tabUpto_rd (v : Nat → Int) (n : Nat) (h : n < 256) : rd (tabUpto v 256) (n : Int) = v n := by
  unfold tabUpto
  rw [show 256 - 256 = 0 from rfl, List.replicate_zero, List.append_nil, rd_map_range _ _ _ h]
theorem spec_EqualizeImage.ev_l2 (t l : List Int) (ht : t.length = 256) (hb : ∀ x ∈ l, 0 ≤ x ∧ x ≤ 255) (hlen : l.length ≤ 1024) (a b c a' b' c' : Int) (d : Nat) : ∀ i, i ≤ l.length → l.length - i = d →
    Ev (fun k => spec_EqualizeImage.l2 k t (i : Int) a b c l a' b' c' (mapUpto (rd t) l i)) (a', b', c', l.map (rd t)) := by
  induction d with
  | zero =>
    intro i hi hd
    refine Ev.step (fun k => by simp only [spec_EqualizeImage.l2]; rfl) (evNeg (by rw [mapUpto_length _ _ _ hi]; omega) (evRet ?_))
    rw [show i = l.length by omega, mapUpto_all]
  | succ d ih =>
    intro i hi hd
    have hlt : i < l.length := by omega
    have h1 := hb l[i] (List.getElem_mem hlt)
    have hs := mapUpto_set (rd t) l i hlt
    refine Ev.step (fun k => by simp only [spec_EqualizeImage.l2, rdN l i hlt, wrapSucc i (by omega), hs]; rfl) ?_
    refine evPos (by rw [mapUpto_length _ _ _ hi]; omega) (evPos (by omega) (evPos (by omega) (evPos h1.1 (evPos (by omega) ?_))))
    exact ih (i + 1) (by omega) (by omega)
/-- What the reference's table says of a number. -/
def specNum (l : List Int) (n : Nat) : Int := mn 255 (eqVal (histL l) (restC l : Int) n)
theorem spec_EqualizeImage.ev_l1 (l : List Int) (hb : ∀ x ∈ l, 0 ≤ x ∧ x ≤ 255) (hlen : l.length ≤ 1024) (h0 : restC l ≠ 0) (a b c a' b' c' : Int) (d : Nat) : ∀ n, n ≤ 256 → 256 - n = d →
    Ev (fun k => spec_EqualizeImage.l1 k (histL l) (restC l : Int) (eqLess (histL l) n) (tabUpto (specNum l) n) (n : Int) a b c l a' b' c' l) (a', b', c', l.map (rd (tabUpto (specNum l) 256))) := by
  induction d with
  | zero =>
    intro n hn hd
    obtain rfl : n = 256 := by omega
    have h := spec_EqualizeImage.ev_l2 (tabUpto (specNum l) 256) l (tabUpto_length _ _ (Nat.le_refl _)) hb hlen a b c a' b' c' l.length 0 (by omega) (by omega)
    rw [mapUpto_zero] at h
    exact Ev.step (fun k => by simp only [spec_EqualizeImage.l1]; rfl) (evNeg (by omega) h)
  | succ d ih =>
    intro n hn hd
    have h := ih (n + 1) (by omega) (by omega)
    have hs := tabUpto_set (specNum l) n (by omega)
    have hv : mn 255 (wrap64 (Int.tdiv (wrap64 (255 * eqLess (histL l) n)) (restC l : Int))) = specNum l n := rfl
    have hw : wrap64 (eqLess (histL l) n + rd (histL l) (n : Int)) = eqLess (histL l) (n + 1) := rfl
    refine Ev.step (fun k => by simp only [spec_EqualizeImage.l1, hv, hw, hs, wrapSucc n (by omega)]; rfl) ?_
    clear hv hw
    exact evPos (by omega) (evNeg (by omega) (evPos (by omega) (evPos (by rw [tabUpto_length _ _ hn]; omega) (evPos (by rw [histL_length]; omega) h))))
theorem spec_data (l : List Int) (hb : ∀ x ∈ l, 0 ≤ x ∧ x ≤ 255) (hlen : l.length ≤ 1024) (h0 : restC l ≠ 0) : l.map (rd (tabUpto (specNum l) 256)) = eqData l := by
  unfold eqData
  rw [if_neg h0]
  refine List.map_congr_left fun x hx => ?_
  have h1 := eqNum_bounds l x hx h0
  obtain ⟨n, rfl⟩ := Int.eq_ofNat_of_zero_le (hb x hx).1
  have := (hb _ hx).2
  rw [tabUpto_rd _ n (by omega)]
  unfold specNum mn
  rw [eqVal_hist l hb hlen n (by omega) h0]
  split <;> omega
theorem spec_EqualizeImage.ev_l0 (l : List Int) (hb : ∀ x ∈ l, 0 ≤ x ∧ x ≤ 255) (hlen : l.length ≤ 1024) (hpos : 0 < l.length) (a b c : Int) (d : Nat) : ∀ (n : Nat) (m : Int), n ≤ 256 → 256 - n = d → 0 ≤ m → m ≤ 255 → (m = 0 ∨ m ∈ l) → (∀ x ∈ l, x < (n : Int) → x ≤ m) →
    Ev (fun k => spec_EqualizeImage.l0 k (histL l) m (n : Int) a b c l) (a, b, c, eqData l) := by
  induction d with
  | zero =>
    intro n m hn hd m0 m1 hm hall
    obtain rfl : n = 256 := by omega
    have e : m = topL l := by
      have t1 := topL_mem l hpos
      have t2 := hb _ t1
      have t3 := hall _ t1 (by omega)
      rcases hm with rfl | hm
      · omega
      · have := topL_ge l m hm; omega
    subst e
    have hr := rest_wrap l hb hlen hpos
    refine Ev.step (fun k => by simp only [spec_EqualizeImage.l0, hr]; rfl) ?_
    clear hr
    refine evNeg (by omega) (evPos m0 (evPos (by rw [histL_length]; omega) ?_))
    by_cases h0 : restC l = 0
    · refine evPos (by omega) (evFix (spec_copyImage.val a b c l (by omega)) (evRet ?_))
      unfold eqData
      rw [if_pos h0]
    · refine evNeg (by omega) (evFix (spec_copyImage.val a b c l (by omega)) (evPos (by omega) ?_))
      have h := spec_EqualizeImage.ev_l1 l hb hlen h0 a b c a b c 256 0 (by omega) (by omega)
      rw [spec_data l hb hlen h0] at h
      exact h
  | succ d ih =>
    intro n m hn hd m0 m1 hm hall
    refine Ev.step (fun k => by simp only [spec_EqualizeImage.l0, wrapSucc n (by omega)]; rfl) ?_
    refine evPos (by omega) (evPos (by omega) (evPos (by rw [histL_length]; omega) ?_))
    have hc := histL_rd l n (by omega)
    refine evIf (fun h => ?_) (fun h => ?_)
    · rw [hc] at h
      have hin : (n : Int) ∈ l := List.count_pos_iff.1 (by omega)
      exact ih (n + 1) (n : Int) (by omega) (by omega) (by omega) (by omega) (.inr hin) (fun x hx hlt => by omega)
    · rw [hc] at h
      have hout : (n : Int) ∉ l := fun hin => h (by have := List.count_pos_iff.2 hin; omega)
      exact ih (n + 1) m (by omega) (by omega) m0 m1 hm (fun x hx hlt => by
        by_cases e : x = n
        · exact absurd (e ▸ hx) hout
        · exact hall x hx (by omega))
theorem spec_EqualizeImage.ev (a b c : Int) (l : List Int) (hl : l.length ≤ 9223372036854775806) : Ev (fun k => spec_EqualizeImage.f k a b c l) (if EqOk a b c l then (a, b, c, eqData l) else (0, 0, 0, [])) := by
  unfold spec_EqualizeImage.f
  refine evBind (spec_validImage.ev a b c l hl) ?_
  by_cases h : ImgOk a b c l
  · refine evPos (decide_eq_true h) ?_
    by_cases h1 : c = 1
    · rw [if_pos (show EqOk a b c l from ⟨h, h1⟩)]
      have hh := spec_histogram.ev l h.2.2.2.2 (by have := h.len; omega)
      have h2 := spec_EqualizeImage.ev_l0 l h.2.2.2.2 h.len.2 h.len.1 a b c 256 0 0 (by omega) (by omega) (by omega) (by omega) (.inl rfl) (fun x hx hlt => by omega)
      exact Ev.step (fun k => by simp only [spec_EqualizeImage.j0]; rfl) (evNeg (by simp [h1]) (evBind hh h2))
    · rw [if_neg (fun hk : EqOk a b c l => h1 hk.2)]
      exact Ev.step (fun k => by simp only [spec_EqualizeImage.j0]; rfl) (evPos (by simp [h1]) (evRet rfl))
  · rw [if_neg (fun hk : EqOk a b c l => h hk.1)]
    exact evNeg (by rw [decide_eq_false h]; simp) (Ev.step (fun k => by simp only [spec_EqualizeImage.j0]; rfl) (evPos (by trivial) (evRet rfl)))
theorem eqData_length (l : List Int) : (eqData l).length = l.length := by unfold eqData; split <;> simp

theorem laws_eqIntS.ev_l0 (a b : List Int) (hab : a.length = b.length) (hl : a.length ≤ 9223372036854775807) (d : Nat) : ∀ i, i ≤ a.length → a.length - i = d →
    Ev (fun k => laws_eqIntS.l0 k a b (i : Int)) (decide (a.drop i = b.drop i)) := by
  induction d with
  | zero =>
    intro i hi hd
    refine Ev.step (fun k => by simp only [laws_eqIntS.l0]; rfl) (evNeg (by omega) (evRet ?_))
    rw [List.drop_of_length_le (by omega), List.drop_of_length_le (by omega)]
    rfl
  | succ d ih =>
    intro i hi hd
    have hw : wrap64 ((i : Int) + 1) = ((i + 1 : Nat) : Int) := wrapSucc i (by omega)
    refine Ev.step (fun k => by simp only [laws_eqIntS.l0, hw]; rfl) (evPos (by omega) (evPos (by omega) (evPos (by omega) ?_)))
    rw [decide_drop_eq a b i (by omega) (by omega), rdN a i (by omega), rdN b i (by omega)]
    refine evIf (fun h => ?_) (fun h => evRet ?_)
    · rw [decide_eq_true h, Bool.true_and]
      exact ih (i + 1) (by omega) (by omega)
    · rw [decide_eq_false h, Bool.false_and]
theorem laws_eqIntS.ev (a b : List Int) (hl : a.length ≤ 9223372036854775807) : Ev (fun k => laws_eqIntS.f k a b) (decide (a = b)) := by
  unfold laws_eqIntS.f
  refine evIf (fun h => ?_) (fun h => evRet ?_)
  · have := laws_eqIntS.ev_l0 a b (by omega) hl a.length 0 (by omega) (by omega)
    simpa using this
  · rw [eq_comm, decide_eq_false_iff_not]
    intro hab
    exact h (by rw [hab])

theorem laws_toIntS.ev_l0 (l : List Int) (hl : l.length ≤ 9223372036854775806) (d : Nat) : ∀ i, i ≤ l.length → l.length - i = d →
    Ev (fun k => laws_toIntS.l0 k l (l.take i ++ List.replicate (l.length - i) 0) (i : Int)) l := by
  induction d with
  | zero =>
    intro i hi hd
    refine Ev.step (fun k => by simp only [laws_toIntS.l0]; rfl) (evNeg (by omega) (evRet ?_))
    rw [List.take_of_length_le (by omega), hd]
    simp
  | succ d ih =>
    intro i hi hd
    have hw : wrap64 ((i : Int) + 1) = ((i + 1 : Nat) : Int) := wrapSucc i (by omega)
    have hs : (l.take i ++ List.replicate (l.length - i) 0).set (i : Int).toNat (rd l i) = l.take (i + 1) ++ List.replicate (l.length - (i + 1)) 0 := by
      rw [Int.toNat_natCast, List.set_append_right _ _ (by simp; omega), List.length_take, show i - min i l.length = 0 by omega, show l.length - i = (l.length - (i + 1)) + 1 by omega, List.replicate_succ, List.set_cons_zero, rdN l i (by omega), take_snocN l i (by omega), List.append_assoc]
      rfl
    refine Ev.step (fun k => by simp only [laws_toIntS.l0, hw, hs]; rfl) (evPos (by omega) (evPos (by omega) (evPos (by simp; omega) ?_)))
    exact ih (i + 1) (by omega) (by omega)
theorem laws_toIntS.ev (l : List Int) (hl : l.length * 8 ≤ 140737488351232) : Ev (fun k => laws_toIntS.f k l) l := by
  have h := laws_toIntS.ev_l0 l (by omega) l.length 0 (by omega) (by omega)
  unfold laws_toIntS.f
  refine evPos (by omega) (evPos (by rw [Int.toNat_natCast]; omega) ?_)
  rw [Int.toNat_natCast]
  simpa using h

theorem laws_szImage.val (a b c : Int) (l : List Int) (m : Int) (hm0 : 0 ≤ m) (hm1 : m ≤ 1048576) (hl : l.length ≤ maxLen) : laws_szImage.f a b c l m = some (if m < l.length then -1 else m - l.length) := by
  simp only [maxLen] at hl
  unfold laws_szImage.f laws_szIntS.f
  rw [wrapIn (x := m - (l.length : Int)) (by omega) (by omega)]
  by_cases h : m < l.length
  · rw [if_pos (by omega), if_pos h]
    simp
  · rw [if_neg (by omega), if_neg h]
    simp only [Option.bind_some]
    rw [if_neg (by omega)]
theorem laws_toImage.ev (a b c : Int) (l : List Int) (hl : l.length * 8 ≤ 140737488351232) : Ev (fun k => laws_toImage.f k a b c l) (a, b, c, l) := by
  unfold laws_toImage.f
  exact evBind (laws_toIntS.ev l hl) (evRet rfl)
theorem laws_eqImage.refl (a b c : Int) (l : List Int) (hl : l.length ≤ 9223372036854775807) : Ev (fun k => laws_eqImage.f k a b c l a b c l) true := by
  have h := laws_eqIntS.ev l l hl
  rw [decide_eq_true rfl] at h
  unfold laws_eqImage.f
  exact evPos rfl (evPos rfl (evPos rfl (evBind h (evPos rfl (evRet rfl)))))
/-- What is left behind the marking. -/
def marks (m : Int) : Nat → List Int
  | 0 => []
  | n + 1 => m :: marks (m + 1) n
theorem marks_length (m : Int) (n : Nat) : (marks m n).length = n := by
  induction n generalizing m with
  | zero => rfl
  | succ n ih => simp [marks, ih]
theorem marks_snoc (m : Int) (n : Nat) : marks m (n + 1) = marks m n ++ [m + n] := by
  induction n generalizing m with
  | zero => simp [marks]
  | succ n ih =>
    rw [marks, ih (m + 1), marks]
    simp
    omega
theorem marks_get (m : Int) (n i : Nat) (h : i < n) (h' : i < (marks m n).length) : (marks m n)[i] = m + i := by
  induction n generalizing m i with
  | zero => omega
  | succ n ih =>
    cases i with
    | zero => simp [marks]
    | succ i =>
      simp only [marks, List.getElem_cons_succ]
      rw [ih (m + 1) i (by omega) (by rw [marks_length]; omega)]
      omega
theorem laws_markIntS.ev_l0 (l : List Int) (m : Int) (hm : 0 ≤ m) (hl : m + l.length ≤ 9223372036854775806) (d : Nat) : ∀ i, i ≤ l.length → l.length - i = d →
    Ev (fun k => laws_markIntS.l0 k (marks m i ++ l.drop i) (m + i) (i : Int)) (m + l.length, marks m l.length) := by
  induction d with
  | zero =>
    intro i hi hd
    have hil : i = l.length := by omega
    refine Ev.step (fun k => by simp only [laws_markIntS.l0]; rfl) (evNeg (by simp [marks_length]; omega) (evRet ?_))
    rw [hil]
    simp
  | succ d ih =>
    intro i hi hd
    have hw : wrap64 ((i : Int) + 1) = ((i + 1 : Nat) : Int) := wrapSucc i (by omega)
    have hw2 : wrap64 (m + i + 1) = m + ((i + 1 : Nat) : Int) := by rw [wrapIn (by omega) (by omega)]; omega
    have hs : (marks m i ++ l.drop i).set (i : Int).toNat (m + i) = marks m (i + 1) ++ l.drop (i + 1) := by
      rw [Int.toNat_natCast, List.set_append_right _ _ (by rw [marks_length]; omega), marks_length, Nat.sub_self, drop_cons_ l i (by omega), List.set_cons_zero, marks_snoc]
      simp
    refine Ev.step (fun k => by simp only [laws_markIntS.l0, hw, hw2, hs]; rfl) (evPos (by simp [marks_length]; omega) (evPos (by omega) ?_))
    exact ih (i + 1) (by omega) (by omega)
theorem laws_markIntS.ev (l : List Int) (m : Int) (hm : 0 ≤ m) (hl : m + l.length ≤ 9223372036854775806) : Ev (fun k => laws_markIntS.f k l m) (m + l.length, marks m l.length) := by
  have := laws_markIntS.ev_l0 l m hm hl l.length 0 (by omega) (by omega)
  unfold laws_markIntS.f
  simpa [marks] using this
theorem laws_heldIntS.ev_l0 (n : Nat) (m : Int) (hm : 0 ≤ m) (hl : m + n ≤ 9223372036854775806) (d : Nat) : ∀ i, i ≤ n → n - i = d →
    Ev (fun k => laws_heldIntS.l0 k (marks m n) (m + i) (i : Int)) (m + n) := by
  induction d with
  | zero =>
    intro i hi hd
    have hil : i = n := by omega
    refine Ev.step (fun k => by simp only [laws_heldIntS.l0]; rfl) (evNeg (by rw [marks_length]; omega) (evRet ?_))
    rw [hil]
  | succ d ih =>
    intro i hi hd
    have hw : wrap64 ((i : Int) + 1) = ((i + 1 : Nat) : Int) := wrapSucc i (by omega)
    have hw2 : wrap64 (m + i + 1) = m + ((i + 1 : Nat) : Int) := by rw [wrapIn (by omega) (by omega)]; omega
    refine Ev.step (fun k => by simp only [laws_heldIntS.l0, hw, hw2]; rfl) (evPos (by rw [marks_length]; omega) (evPos (by omega) (evPos ?_ ?_)))
    · rw [rdN _ i (by rw [marks_length]; omega), marks_get m n i (by omega)]
    · exact ih (i + 1) (by omega) (by omega)
theorem laws_heldIntS.ev (n : Nat) (m : Int) (hm : 0 ≤ m) (hl : m + n ≤ 9223372036854775806) : Ev (fun k => laws_heldIntS.f k (marks m n) m) (m + n) := by
  have := laws_heldIntS.ev_l0 n m hm hl n 0 (by omega) (by omega)
  unfold laws_heldIntS.f
  simpa using this

theorem laws_heldImage.ev (a b c : Int) (n : Nat) (m : Int) (hm : 0 ≤ m) (hl : m + n ≤ 9223372036854775806) : Ev (fun k => laws_heldImage.f k a b c (marks m n) m) (m + n) := by
  unfold laws_heldImage.f
  exact evBind (laws_heldIntS.ev n m hm hl) (evNeg (by omega) (evRet rfl))

theorem laws_markImage.ev (a b c : Int) (l : List Int) (m : Int) (hm : 0 ≤ m) (hl : m + l.length ≤ 9223372036854775806) : Ev (fun k => laws_markImage.f k a b c l m) (m + l.length, marks m l.length) := by
  unfold laws_markImage.f
  exact evBind (laws_markIntS.ev l m hm hl) (evRet rfl)

theorem FnExactEqualizeImage : laws_FnExactEqualizeImage.Pure := by
  intro a b c l _ _ _ hl _
  refine Ev.rounds ?_
  unfold laws_FnExactEqualizeImage.f
  refine evFix (laws_szImage.val a b c l 1048576 (by omega) (by omega) hl) ?_
  by_cases hlt : (1048576 : Int) < l.length
  · rw [if_pos hlt]
    exact evPos (by omega) (evRet rfl)
  rw [if_neg hlt]
  have hb : l.length ≤ 1048576 := by omega
  have h1 := laws_toImage.ev a b c l (by omega)
  have h3 := spec_EqualizeImage.ev a b c l (by omega)
  have h4 := impl_EqualizeImage.ev a b c l
  have hr : (if EqOk a b c l then (a, b, c, eqData l) else (0, 0, 0, [])).2.2.2.length ≤ 1048576 := by
    split
    · simpa [eqData_length] using hb
    · simp
  generalize (if EqOk a b c l then (a, b, c, eqData l) else (0, 0, 0, [])) = r at *
  obtain ⟨ra, rb, rc, rl⟩ := r
  simp only [] at hr
  have heq := laws_eqImage.refl ra rb rc rl (by omega)
  have heql := laws_eqImage.refl a b c l (by omega)
  have hm1 := laws_markImage.ev a b c l 1 (by omega) (by omega)
  have hm3 := laws_markImage.ev ra rb rc rl 1 (by omega) (by omega)
  have hh := laws_heldImage.ev ra rb rc rl.length 1 (by omega) (by omega)
  repeat' first
    | exact evRet rfl
    | refine evFix (by assumption) ?_
    | refine evBind (by assumption) ?_
    | refine evPos (by first | omega | with_reducible rfl | exact True.intro) ?_
    | refine evNeg (by first | omega | (simp only []; omega) | simp) ?_
    | refine Ev.step (fun k => by simp only [laws_FnExactEqualizeImage.j0]; rfl) ?_
    | refine Ev.step (fun k => by simp only [laws_FnExactEqualizeImage.j1]; rfl) ?_
    | refine Ev.step (fun k => by simp only [laws_FnExactEqualizeImage.j2]; rfl) ?_

end Go.Proofs.Ytonolnojpejgnaa.Pure
