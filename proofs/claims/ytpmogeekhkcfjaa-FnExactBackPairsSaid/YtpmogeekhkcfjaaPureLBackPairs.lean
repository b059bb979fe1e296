/- A part of this work's pure proofs. -/
import Derived.Test.YtpmogeekhkcfjaaPrintHhandWords
import Derived.Test.YtpmogeekhkcfjaaPrintR0x6
import Derived.Test.YtpmogeekhkcfjaaPrintR1x2
import Derived.Test.YtpmogeekhkcfjaaPureLInts
import Derived.Test.YtpmogeekhkcfjaaPureLPairs
import Derived.Test.YtpmogeekhkcfjaaPureLallIn
namespace Go.Proofs.Ytpmogeekhkcfjaa.Pure
open Go.RowKit Go.Proofs.Ytpmogeekhkcfjaa.Print Go.Proofs.YtpmogeekhkcfjaaW.PrintWords Go.Proofs.YtpmogeekhkcfjaaW.PrintLast Go.Proofs.YtpmogeekhkcfjaaW.PrintMore
set_option linter.unusedVariables false
set_option linter.unusedSimpArgs false
/-! ### The way back -/
def zipB : List Int → List Int → List Int
  | m :: ms, g :: gs => (m + (g + 1) / 2) :: (m + (g + 1) / 2 - g) :: zipB ms gs
  | ms, _ => ms
def bwdP (l : List Int) : List Int := zipB (l.take ((l.length + 1) / 2)) (l.drop ((l.length + 1) / 2))
theorem zipB_nil (ms : List Int) : zipB ms [] = ms := by cases ms <;> rfl
theorem fwd_zip (gs : List Int) : ∀ ms : List Int, (ms.length = gs.length ∨ ms.length = gs.length + 1) → meansP (zipB ms gs) = ms ∧ gapsP (zipB ms gs) = gs := by
  induction gs with
  | nil =>
    intro ms h
    rw [zipB_nil]
    match ms, h with
    | [], _ => exact ⟨rfl, rfl⟩
    | [a], _ => exact ⟨by simp [meansP], by simp [gapsP]⟩
    | a :: b :: t, h => simp at h
  | cons g gs ih =>
    intro ms h
    match ms, h with
    | [], h => simp at h
    | m :: ms, h =>
      obtain ⟨h1, h2⟩ := ih ms (by simp at h; omega)
      simp only [zipB, meansP, gapsP, h1, h2]
      refine ⟨?_, ?_⟩
      · congr 1
        unfold mean2
        omega
      · congr 1
        omega
theorem fwd_bwd (l : List Int) : fwdP (bwdP l) = l := by
  have h := fwd_zip (l.drop ((l.length + 1) / 2)) (l.take ((l.length + 1) / 2)) (by simp; omega)
  unfold fwdP bwdP
  rw [h.1, h.2]
  exact List.take_append_drop _ _
theorem zip_fwd (l : List Int) : zipB (meansP l) (gapsP l) = l := by
  induction l using meansP.induct with
  | case1 a b t ih =>
    simp only [meansP, gapsP, zipB, ih]
    unfold mean2
    congr 1
    · omega
    · congr 1
      omega
  | case2 l h =>
    match l, h with
    | [], _ => rfl
    | [a], _ => simp [meansP, gapsP, zipB]
    | a :: b :: t, h => exact absurd rfl (h a b t)
theorem bwd_fwd (l : List Int) : bwdP (fwdP l) = l := by
  unfold bwdP
  rw [fwdP_length, ← meansP_length]
  unfold fwdP
  rw [List.take_left' rfl, List.drop_left' rfl]
  exact zip_fwd l
theorem bwdP_length (l : List Int) : (bwdP l).length = l.length := by
  have := congrArg List.length (fwd_bwd l)
  rwa [fwdP_length] at this
/-- A list that has a way back. -/
def BackOk (l : List Int) : Prop := l.length ≤ 64 ∧ PairOk (bwdP l)
instance (l : List Int) : Decidable (BackOk l) := by unfold BackOk; exact inferInstance
theorem backOk_of (out l : List Int) (h : PairOk out) (e : fwdP out = l) : BackOk l := by
  subst e
  unfold BackOk
  rw [bwd_fwd, fwdP_length]
  exact ⟨h.1, h⟩
theorem meansP_bound (l : List Int) (h : ∀ x ∈ l, inPair x) : ∀ x ∈ meansP l, inPair x := by
  induction l using meansP.induct with
  | case1 a b t ih =>
    intro x hx
    have ha := h a (by simp)
    have hb := h b (by simp)
    simp only [meansP, List.mem_cons] at hx
    rcases hx with rfl | hx
    · unfold inPair mean2 at *
      omega
    · exact ih (fun y hy => h y (by simp [hy])) x hx
  | case2 l hl =>
    match l, hl with
    | [], _ => intro x hx; simp [meansP] at hx
    | [a], _ => intro x hx; exact h x (by simpa [meansP] using hx)
    | a :: b :: t, hl => exact absurd rfl (hl a b t)
theorem gapsP_bound (l : List Int) (h : ∀ x ∈ l, inPair x) : ∀ x ∈ gapsP l, -1998 ≤ x ∧ x ≤ 1998 := by
  induction l using meansP.induct with
  | case1 a b t ih =>
    intro x hx
    have ha := h a (by simp)
    have hb := h b (by simp)
    simp only [gapsP, List.mem_cons] at hx
    rcases hx with rfl | hx
    · unfold inPair at *
      omega
    · exact ih (fun y hy => h y (by simp [hy])) x hx
  | case2 l hl =>
    match l, hl with
    | [], _ => intro x hx; simp [gapsP] at hx
    | [a], _ => intro x hx; simp [gapsP] at hx
    | a :: b :: t, hl => exact absurd rfl (hl a b t)
theorem backOk_bounds (l : List Int) (h : BackOk l) : ∀ x ∈ l, -1998 ≤ x ∧ x ≤ 1998 := by
  intro x hx
  rw [← fwd_bwd l] at hx
  unfold fwdP at hx
  rcases List.mem_append.1 hx with hx | hx
  · have := meansP_bound _ h.2.2 x hx
    unfold inPair at this
    omega
  · exact gapsP_bound _ h.2.2 x hx
theorem backOk_means (l : List Int) (h : BackOk l) (i : Nat) (hi : i < (l.length + 1) / 2) (hi2 : i < l.length) : inPair l[i] := by
  have h1 : meansP (bwdP l) = l.take ((l.length + 1) / 2) := (fwd_zip (l.drop ((l.length + 1) / 2)) (l.take ((l.length + 1) / 2)) (by simp; omega)).1
  refine meansP_bound _ h.2.2 _ ?_
  rw [h1]
  have : l[i] = (l.take ((l.length + 1) / 2))[i]'(by simp; omega) := by simp
  rw [this]
  exact List.getElem_mem _
theorem zipB_step (l : List Int) (h i : Nat) (hh : h = (l.length + 1) / 2) (hi : h + i < l.length) :
    zipB ((l.take h).drop i) ((l.drop h).drop i) = (l[i] + (l[h + i] + 1) / 2) :: (l[i] + (l[h + i] + 1) / 2 - l[h + i]) :: zipB ((l.take h).drop (i + 1)) ((l.drop h).drop (i + 1)) := by
  have e1 : (l.take h).drop i = l[i] :: (l.take h).drop (i + 1) := by
    rw [drop_cons_ (l.take h) i (by simp; omega)]
    simp
  have e2 : (l.drop h).drop i = l[h + i] :: (l.drop h).drop (i + 1) := by
    rw [drop_cons_ (l.drop h) i (by simp; omega)]
    simp
  rw [e1, e2]
  rfl
theorem zipB_end (l : List Int) (h i : Nat) (hh : h = (l.length + 1) / 2) (hi : h + i = l.length) : zipB ((l.take h).drop i) ((l.drop h).drop i) = if h' : l.length % 2 = 1 then [l[i]'(by omega)] else [] := by
  have e2 : (l.drop h).drop i = [] := List.drop_of_length_le (by simp; omega)
  rw [e2, zipB_nil]
  split
  · rw [drop_cons_ (l.take h) i (by simp; omega), List.drop_of_length_le (by simp; omega)]
    simp
  · exact List.drop_of_length_le (by simp; omega)
theorem spec_backward.ev_l0 (l : List Int) (hl : l.length ≤ 64) (hb : ∀ x ∈ l, -1998 ≤ x ∧ x ≤ 1998) (h : Nat) (hh : h = (l.length + 1) / 2) (d : Nat) : ∀ i x3, h + i ≤ l.length → l.length - (h + i) = d → x3.length ≤ 2 * i →
    Ev (fun k => spec_backward.l0 k l x3 (h : Int) (i : Int)) (x3 ++ zipB ((l.take h).drop i) ((l.drop h).drop i)) := by
  induction d with
  | zero =>
    intro i x3 hi hd h3
    have hw : wrap64 ((h : Int) + (i : Int)) = ((h + i : Nat) : Int) := by rw [wrapIn (by omega) (by omega)]; omega
    rw [zipB_end l h i hh (by omega)]
    refine Ev.step (fun k => by simp only [spec_backward.l0, hw]; rfl) (evNeg (by omega) ?_)
    by_cases ho : l.length % 2 = 1
    · have hw2 : wrap64 ((h : Int) - 1) = ((i : Nat) : Int) := by rw [wrapIn (by omega) (by omega)]; omega
      rw [hw2, rdN l i (by omega), dif_pos ho]
      exact evPos (by omega) (evPos (by omega) (evPos (by omega) (evPos (show x3.length < 17592186044416 by omega) (evRet rfl))))
    · rw [dif_neg ho, List.append_nil]
      exact evNeg (by omega) (evRet rfl)
  | succ d ih =>
    intro i x3 hi hd h3
    have hw : wrap64 ((h : Int) + (i : Int)) = ((h + i : Nat) : Int) := by rw [wrapIn (by omega) (by omega)]; omega
    have hw1 : wrap64 ((i : Int) + 1) = ((i + 1 : Nat) : Int) := wrapSucc i (by omega)
    have b1 := hb l[i] (List.getElem_mem _)
    have b2 := hb l[h + i] (List.getElem_mem _)
    rw [zipB_step l h i hh (by omega)]
    refine Ev.step (fun k => by simp only [spec_backward.l0, hw, hw1]; rfl) (evPos (by omega) (evPos (by omega) (evPos (by omega) (evPos (by omega) ?_))))
    rw [rdN l i (by omega), rdN l (h + i) (by omega), wrapIn (x := l[h + i] + 1) (by omega) (by omega)]
    refine evFix (specFloor2 _ (by omega) (by omega)) ?_
    rw [wrapIn (x := l[i] + (l[h + i] + 1) / 2) (by omega) (by omega), wrapIn (x := l[i] + (l[h + i] + 1) / 2 - l[h + i]) (by omega) (by omega)]
    refine evFix rfl (evPos (by simp; omega) ?_)
    have := ih (i + 1) (x3 ++ [l[i] + (l[h + i] + 1) / 2, l[i] + (l[h + i] + 1) / 2 - l[h + i]]) (by omega) (by omega) (by simp; omega)
    simpa using this
theorem spec_backward.ev (l : List Int) (hl : l.length ≤ 64) (hb : ∀ x ∈ l, -1998 ≤ x ∧ x ≤ 1998) : Ev (fun k => spec_backward.f k l) (bwdP l) := by
  have hw : wrap64 (Int.tdiv (wrap64 ((l.length : Int) + 1)) 2) = (((l.length + 1) / 2 : Nat) : Int) := by
    rw [wrapIn (x := (l.length : Int) + 1) (by omega) (by omega), Int.tdiv_eq_ediv_of_nonneg (by omega), wrapIn (by omega) (by omega)]
    omega
  have := spec_backward.ev_l0 l hl hb ((l.length + 1) / 2) rfl _ 0 [] (by omega) rfl (by simp)
  unfold spec_backward.f
  rw [hw]
  simpa [bwdP] using this
theorem spec_BackPairs.ev (l : List Int) : Ev (fun k => spec_BackPairs.f k l) (if BackOk l then (bwdP l, true) else ([], false)) := by
  have hno : ¬ BackOk l → Ev (fun k => spec_BackPairs.j0 k l true) (if BackOk l then (bwdP l, true) else ([], false)) := fun h => by
    rw [if_neg h]
    exact Ev.step (fun k => by simp only [spec_BackPairs.j0]; rfl) (evPos (by trivial) (evRet rfl))
  unfold spec_BackPairs.f
  refine evIf (fun h => hno fun h2 => by have := h2.1; omega) (fun h => evBind (spec_allIn.ev l _ _ (by omega)) ?_)
  cases hb : allB (-1998) 1998 l with
  | false =>
    refine hno fun h2 => ?_
    have := (allB_iff _ _ l).2 (backOk_bounds l h2)
    rw [hb] at this
    cases this
  | true =>
    have hb2 := (allB_iff _ _ l).1 hb
    refine Ev.step (fun k => by simp only [spec_BackPairs.j0]; rfl) (evNeg (by simp) (evBind (spec_backward.ev l (by omega) hb2) (evBind (spec_validPairs.ev (bwdP l) (by rw [bwdP_length]; omega)) (evIf (fun h2 => evRet ?_) (fun h2 => evRet ?_)))))
    · rw [decide_eq_true_eq] at h2
      rw [if_pos ⟨by omega, h2⟩]
    · rw [decide_eq_true_eq] at h2
      rw [if_neg fun h3 => h2 h3.2]
theorem slices_Equal_int_int.ev_l0 (a b : List Int) (hab : a.length = b.length) (hl : a.length ≤ 9223372036854775806) (d : Nat) : ∀ i, i ≤ a.length → a.length - i = d →
    Ev (fun k => slices_Equal_int_int.l0 k a b (a.length : Int) (i : Int)) (decide (a.drop i = b.drop i)) := by
  induction d with
  | zero =>
    intro i hi hd
    refine Ev.step (fun k => by simp only [slices_Equal_int_int.l0]; rfl) (evNeg (by omega) (evRet ?_))
    rw [List.drop_of_length_le (by omega), List.drop_of_length_le (by omega)]
    rfl
  | succ d ih =>
    intro i hi hd
    have hw : wrap64 ((i : Int) + 1) = ((i + 1 : Nat) : Int) := wrapSucc i (by omega)
    refine Ev.step (fun k => by simp only [slices_Equal_int_int.l0, hw]; rfl) (evPos (by omega) (evPos (by omega) (evPos (by omega) (evPos (by omega) ?_))))
    rw [decide_drop_eq a b i (by omega) (by omega), rdN a i (by omega), rdN b i (by omega)]
    refine evIf (fun h => ?_) (fun h => evRet ?_)
    · rw [decide_eq_true h, Bool.true_and]
      exact ih (i + 1) (by omega) (by omega)
    · rw [decide_eq_false h, Bool.false_and]
theorem slices_Equal_int_int.ev (a b : List Int) (hl : a.length ≤ 9223372036854775806) : Ev (fun k => slices_Equal_int_int.f k a b) (decide (a = b)) := by
  unfold slices_Equal_int_int.f
  refine evIf (fun h => ?_) (fun h => evRet ?_)
  · have := slices_Equal_int_int.ev_l0 a b (by omega) hl a.length 0 (by omega) (by omega)
    simpa using this
  · rw [eq_comm, decide_eq_false_iff_not]
    intro hab
    exact h (by rw [hab])
theorem impl_BackPairs.ev_j1 (l x : List Int) (hx : x.length ≤ 1000) : Ev (fun k => impl_BackPairs.j1 k l x) (if PairOk x ∧ fwdP x = l then (x, true) else ([], false)) := by
  refine Ev.step (fun k => by simp only [impl_BackPairs.j1]; rfl) (evFix (impl_isPairList.val x) (evIf (fun h => ?_) (fun h => evRet ?_)))
  · rw [decide_eq_true_eq] at h
    refine evBind (impl_forwardPairs.ev x h) (evBind (slices_Equal_int_int.ev (fwdP x) l (by rw [fwdP_length]; omega)) (evIf (fun h2 => evRet ?_) (fun h2 => evRet ?_)))
    · rw [decide_eq_true_eq] at h2
      rw [if_pos ⟨h, h2⟩]
    · rw [decide_eq_true_eq] at h2
      rw [if_neg fun h3 => h2 h3.2]
  · rw [decide_eq_true_eq] at h
    rw [if_neg fun h3 => h h3.1]
theorem impl_BackPairs.ev_no (l : List Int) (hl : l.length ≤ 64) (hno : ¬ BackOk l) (q : Nat) (hq : q = l.length / 2) (d : Nat) : ∀ i x, i ≤ q → q - i = d → x.length ≤ 2 * i →
    Ev (fun k => impl_BackPairs.l0 k l (q : Int) x (q : Int) (i : Int)) ([], false) := by
  have hj : ∀ x : List Int, x.length ≤ 200 → Ev (fun k => impl_BackPairs.j1 k l x) ([], false) := fun x hx => by
    have := impl_BackPairs.ev_j1 l x (by omega)
    rwa [if_neg fun h => hno (backOk_of x l h.1 h.2)] at this
  induction d with
  | zero =>
    intro i x hi hd hx
    refine Ev.step (fun k => by simp only [impl_BackPairs.l0]; rfl) (evNeg (by omega) (evIf (fun h => evPos (by omega) (evPos (by omega) (evPos (show x.length < 17592186044416 by omega) ?_))) (fun h => hj x (by omega))))
    exact hj _ (by simp; omega)
  | succ d ih =>
    intro i x hi hd hx
    have hw1 : wrap64 ((i : Int) + 1) = ((i + 1 : Nat) : Int) := wrapSucc i (by omega)
    have hw : wrap64 (wrap64 ((l.length : Int) - q) + i) = ((l.length - q + i : Nat) : Int) := by rw [wrapIn (x := (l.length : Int) - q) (by omega) (by omega), wrapIn (by omega) (by omega)]; omega
    refine Ev.step (fun k => by simp only [impl_BackPairs.l0, hw, hw1]; rfl) (evPos (by omega) (evPos (by omega) (evPos (by omega) (evPos (by omega) (evPos (by omega) ?_)))))
    refine evFix rfl (evIf (fun _ => evRet rfl) (fun _ => evIf (fun _ => evRet rfl) (fun _ => evIf (fun _ => evRet rfl) (fun _ => evFix rfl (evFix rfl (evPos (by simp; omega) ?_))))))
    exact ih (i + 1) _ (by omega) (by omega) (by simp; omega)
theorem impl_BackPairs.ev_yes (l : List Int) (hl : l.length ≤ 64) (hok : BackOk l) (q : Nat) (hq : q = l.length / 2) (d : Nat) : ∀ i x, i ≤ q → q - i = d → x.length ≤ 2 * i → x ++ zipB ((l.take (l.length - q)).drop i) ((l.drop (l.length - q)).drop i) = bwdP l →
    Ev (fun k => impl_BackPairs.l0 k l (q : Int) x (q : Int) (i : Int)) (bwdP l, true) := by
  have hj : Ev (fun k => impl_BackPairs.j1 k l (bwdP l)) (bwdP l, true) := by
    have := impl_BackPairs.ev_j1 l (bwdP l) (by rw [bwdP_length]; omega)
    rwa [if_pos ⟨hok.2, fwd_bwd l⟩] at this
  induction d with
  | zero =>
    intro i x hi hd hx he
    rw [zipB_end l (l.length - q) i (by omega) (by omega)] at he
    refine Ev.step (fun k => by simp only [impl_BackPairs.l0]; rfl) (evNeg (by omega) (evIf (fun h => evPos (by omega) (evPos (by omega) (evPos (show x.length < 17592186044416 by omega) ?_))) (fun h => ?_)))
    · rw [dif_pos (by omega)] at he
      rw [rdN l q (by omega)]
      have e : x ++ [l[q]] = bwdP l := by
        rw [← he]
        congr 2
        congr 1
        omega
      rw [e]
      exact hj
    · rw [dif_neg (by omega), List.append_nil] at he
      rw [he]
      exact hj
  | succ d ih =>
    intro i x hi hd hx he
    have hw1 : wrap64 ((i : Int) + 1) = ((i + 1 : Nat) : Int) := wrapSucc i (by omega)
    have hw : wrap64 (wrap64 ((l.length : Int) - q) + i) = ((l.length - q + i : Nat) : Int) := by rw [wrapIn (x := (l.length : Int) - q) (by omega) (by omega), wrapIn (by omega) (by omega)]; omega
    have b1 := backOk_means l hok i (by omega) (by omega)
    have b2 := backOk_bounds l hok l[l.length - q + i] (List.getElem_mem _)
    unfold inPair at b1
    refine Ev.step (fun k => by simp only [impl_BackPairs.l0, hw, hw1]; rfl) (evPos (by omega) (evPos (by omega) (evPos (by omega) (evPos (by omega) (evPos (by omega) ?_)))))
    rw [rdN l i (by omega), rdN l (l.length - q + i) (by omega)]
    rw [zipB_step l (l.length - q) i (by omega) (by omega)] at he
    generalize l[i] = m at *
    generalize l[l.length - q + i] = g at *
    have hs : impl_size.f m = some (if m < -m then -m else m) := by unfold impl_size.f mx; rw [wrapIn (x := -m) (by omega) (by omega)]
    have hs2 : impl_size.f g = some (if g < -g then -g else g) := by unfold impl_size.f mx; rw [wrapIn (x := -g) (by omega) (by omega)]
    have hA : 0 ≤ (if g < -g then -g else g) := by split <;> omega
    have hev : (2 * m + Int.tmod (if g < -g then -g else g) 2 + g) % 2 = 0 ∧ (2 * m + Int.tmod (if g < -g then -g else g) 2 + g) / 2 = m + (g + 1) / 2 ∧ 0 ≤ Int.tmod (if g < -g then -g else g) 2 ∧ Int.tmod (if g < -g then -g else g) 2 < 2 := by
      rw [Int.tmod_eq_emod_of_nonneg hA]
      split <;> omega
    obtain ⟨hev1, hev2, ht0, ht1⟩ := hev
    refine evFix hs (evNeg (by split <;> omega) (evNeg (by omega) (evNeg (by omega) (evFix hs2 ?_))))
    generalize Int.tmod (if g < -g then -g else g) 2 = t at *
    have hd2 : Int.tdiv (2 * m + t + g) 2 = m + (g + 1) / 2 := by
      rw [← hev2]
      exact Int.tdiv_eq_ediv_of_dvd (by omega)
    rw [wrapIn (x := 2 * m) (by omega) (by omega), wrapIn (x := 2 * m + t) (by omega) (by omega), wrapIn (x := 2 * m + t + g) (by omega) (by omega), hd2, wrapIn (x := m + (g + 1) / 2) (by omega) (by omega), wrapIn (x := m + (g + 1) / 2 - g) (by omega) (by omega)]
    refine evFix rfl (evPos (by simp; omega) ?_)
    exact ih (i + 1) _ (by omega) (by omega) (by simp; omega) (by simpa using he)
theorem impl_BackPairs.ev (l : List Int) : Ev (fun k => impl_BackPairs.f k l) (if BackOk l then (bwdP l, true) else ([], false)) := by
  unfold impl_BackPairs.f
  refine evIf (fun h => evRet ?_) (fun h => ?_)
  · rw [if_neg fun h2 => by have := h2.1; omega]
  · have hw : wrap64 ((l.length : Int) / 2) = ((l.length / 2 : Nat) : Int) := by rw [wrapIn (by omega) (by omega)]; omega
    rw [hw]
    by_cases hok : BackOk l
    · rw [if_pos hok]
      refine impl_BackPairs.ev_yes l (by omega) hok (l.length / 2) rfl _ 0 [] (by omega) rfl (by simp) ?_
      rw [show l.length - l.length / 2 = (l.length + 1) / 2 by omega]
      rfl
    · rw [if_neg hok]
      exact impl_BackPairs.ev_no l (by omega) hok (l.length / 2) rfl _ 0 [] (by omega) rfl (by simp)

end Go.Proofs.Ytpmogeekhkcfjaa.Pure
