/- FnLineRegionBox answers true for every code: the box of a line is the box of its ends. No condition. -/
import Derived.Test.YtifjkllkbciliaaPrintHhandRuns
import Derived.Test.YtifjkllkbciliaaPrintHhandValid
import Derived.Test.YtifjkllkbciliaaPrintHhandWords
import Derived.Test.YtifjkllkbciliaaPrintHimplDiscRegion
import Derived.Test.YtifjkllkbciliaaPrintHimplLineRegion
import Derived.Test.YtifjkllkbciliaaPrintHimplgridOf
import Derived.Test.YtifjkllkbciliaaPrintR0x0
import Derived.Test.YtifjkllkbciliaaPrintR0x1
import Derived.Test.YtifjkllkbciliaaPrintR0x2
import Derived.Test.YtifjkllkbciliaaPrintR0x3
import Derived.Test.YtifjkllkbciliaaPrintR0x4
import Derived.Test.YtifjkllkbciliaaPrintR0x5
import Derived.Test.YtifjkllkbciliaaPrintR2x1
namespace Go.Proofs.Ytifjkllkbciliaa.Pure
open Go.RowKit Go.Proofs.Ytifjkllkbciliaa.Print Go.Proofs.YtifjkllkbciliaaW.PrintWords Go.Proofs.YtifjkllkbciliaaW.PrintLast Go.Proofs.YtifjkllkbciliaaW.PrintMore
set_option linter.unusedVariables false
set_option linter.unusedSimpArgs false
/-! ### Lists of numbers: reading, and loops over them -/
theorem rdN (l : List Int) (k : Nat) (h : k < l.length) : rd l (k : Int) = l[k] := by
  simp [rd, List.getD_eq_getElem?_getD, List.getElem?_eq_getElem h]
theorem drop_cons_ {α : Type} (l : List α) (k : Nat) (h : k < l.length) : l.drop k = l[k] :: l.drop (k + 1) := List.drop_eq_getElem_cons h
theorem take_snocN {α : Type} (l : List α) (k : Nat) (h : k < l.length) : l.take (k + 1) = l.take k ++ [l[k]] := by
  rw [List.take_succ_eq_append_getElem h]
theorem eq_of_getElem {α : Type} (a b : List α) (h : a.length = b.length) (hh : ∀ i (h1 : i < a.length) (h2 : i < b.length), a[i] = b[i]) : a = b := List.ext_getElem h hh
/-- Two lists of one length, from a place on. -/
theorem decide_drop_eq {α : Type} [DecidableEq α] (a b : List α) (i : Nat) (h1 : i < a.length) (h2 : i < b.length) : decide (a.drop i = b.drop i) = (decide (a[i] = b[i]) && decide (a.drop (i + 1) = b.drop (i + 1))) := by
  rw [drop_cons_ a i h1, drop_cons_ b i h2]
  rw [Bool.eq_iff_iff]
  simp only [decide_eq_true_eq, Bool.and_eq_true, List.cons.injEq]

/-! ### Regions are their grids -/
theorem start_of (f : Nat → Bool) (y : Nat) (c : Nat) (hc : c < 16) (hf : f (16 * y + c) = true) : ∃ a, a ≤ c ∧ startB f (16 * y + a) = true ∧ ∀ i, a ≤ i → i ≤ c → f (16 * y + i) = true := by
  induction c with
  | zero =>
    refine ⟨0, Nat.le_refl _, ?_, fun i _ h => ?_⟩
    · unfold startB
      rw [hf, decide_eq_true (show (16 * y + 0) % 16 = 0 by omega)]
      rfl
    · obtain rfl : i = 0 := by omega
      exact hf
  | succ c ih =>
    cases hp : f (16 * y + c) with
    | true =>
      obtain ⟨a, h1, h2, h3⟩ := ih (by omega) hp
      refine ⟨a, by omega, h2, fun i h4 h5 => ?_⟩
      rcases Nat.lt_or_ge c i with h | h
      · obtain rfl : i = c + 1 := by omega
        exact hf
      · exact h3 i h4 h
    | false =>
      refine ⟨c + 1, Nat.le_refl _, ?_, fun i h4 h5 => ?_⟩
      · unfold startB
        rw [hf, show 16 * y + (c + 1) - 1 = 16 * y + c by omega, hp]
        simp
      · obtain rfl : i = c + 1 := by omega
        exact hf
theorem mem_runsL (f : Nat → Bool) (r : S45) : r ∈ runsL f ↔ ∃ s, s < 256 ∧ startB f s = true ∧ r = ⟨(s / 16 : Nat), (s % 16 : Nat), (endOf f (s / 16) (s % 16) : Nat)⟩ := by
  unfold runsL runsUpto
  rw [List.mem_filterMap]
  constructor
  · rintro ⟨s, hs, h⟩
    unfold runAt at h
    split at h
    · rename_i hst
      exact ⟨s, by simpa using hs, hst, (Option.some.inj h).symm⟩
    · cases h
  · rintro ⟨s, hs, hst, rfl⟩
    exact ⟨s, by simpa using hs, by unfold runAt; rw [if_pos hst]⟩
theorem start_true {f : Nat → Bool} {s : Nat} (h : startB f s = true) : f s = true ∧ (s % 16 = 0 ∨ f (s - 1) = false) := by
  unfold startB at h
  simp only [Bool.and_eq_true, Bool.or_eq_true, decide_eq_true_eq, Bool.not_eq_true'] at h
  exact h
theorem gridF_runsL (f : Nat → Bool) (i : Nat) (hi : i < 256) : gridF (runsL f) i = f i := by
  rw [Bool.eq_iff_iff]
  unfold gridF
  rw [List.any_eq_true]
  constructor
  · rintro ⟨r, hr, hin⟩
    obtain ⟨s, hs, hst, rfl⟩ := (mem_runsL f r).1 hr
    unfold inRun at hin
    simp only [Bool.and_eq_true, decide_eq_true_eq] at hin
    obtain ⟨⟨h1, h2⟩, h3⟩ := hin
    have := (endOf_facts f (s / 16) (16 - s % 16) (s % 16) (by omega) rfl).2.2.1 (i % 16) (by omega) (by omega)
    rwa [show 16 * (s / 16) + i % 16 = i by omega] at this
  · intro hf
    obtain ⟨a, h1, h2, h3⟩ := start_of f (i / 16) (i % 16) (by omega) (by rwa [show 16 * (i / 16) + i % 16 = i by omega])
    refine ⟨⟨((16 * (i / 16) + a) / 16 : Nat), ((16 * (i / 16) + a) % 16 : Nat), (endOf f ((16 * (i / 16) + a) / 16) ((16 * (i / 16) + a) % 16) : Nat)⟩, (mem_runsL f _).2 ⟨_, by omega, h2, rfl⟩, ?_⟩
    have e1 : (16 * (i / 16) + a) / 16 = i / 16 := by omega
    have e2 : (16 * (i / 16) + a) % 16 = a := by omega
    rw [e1, e2]
    have hlt : i % 16 < endOf f (i / 16) a := by
      obtain ⟨g1, g2, g3, g4⟩ := endOf_facts f (i / 16) (16 - a) a (by omega) rfl
      rcases Nat.lt_or_ge (i % 16) (endOf f (i / 16) a) with h | h
      · exact h
      · have := h3 (endOf f (i / 16) a) g1 h
        rw [g4 (by omega)] at this
        cases this
    unfold inRun
    simp only [Bool.and_eq_true, decide_eq_true_eq]
    exact ⟨⟨by trivial, by omega⟩, by omega⟩
theorem runsL_valid (f : Nat → Bool) : Valid (runsL f) := by
  constructor
  · intro r hr
    obtain ⟨s, hs, hst, rfl⟩ := (mem_runsL f r).1 hr
    have h := start_true hst
    have hgt := endOf_gt f (s / 16) (s % 16) (by omega) (by rw [show 16 * (s / 16) + s % 16 = s by omega]; exact h.1)
    have hle := (endOf_facts f (s / 16) (16 - s % 16) (s % 16) (by omega) rfl).2.1
    unfold okRun
    simp only []
    omega
  · unfold runsL runsUpto
    rw [List.pairwise_filterMap]
    refine List.Pairwise.imp ?_ List.pairwise_lt_range
    intro s t hlt a ha b hb
    unfold runAt at ha hb
    split at ha
    · split at hb
      · rename_i hs ht
        obtain rfl := Option.some.inj ha
        obtain rfl := Option.some.inj hb
        unfold before
        simp only []
        by_cases hrow : s / 16 = t / 16
        · right
          refine ⟨by omega, ?_⟩
          have h1 := start_true ht
          have h2 := h1.2
          rcases h2 with h2 | h2
          · omega
          · obtain ⟨g1, g2, g3, g4⟩ := endOf_facts f (s / 16) (16 - s % 16) (s % 16) (by omega) rfl
            rcases Nat.lt_or_ge (endOf f (s / 16) (s % 16)) (t % 16) with h3 | h3
            · omega
            · have := g3 (t % 16 - 1) (by omega) (by omega)
              rw [show 16 * (s / 16) + (t % 16 - 1) = t - 1 by omega, h2] at this
              cases this
        · left
          omega
      · cases hb
    · cases ha
theorem inRun_iff (r : S45) (i : Nat) : inRun r i = true ↔ r.f0 = (i / 16 : Nat) ∧ r.f1 ≤ (i % 16 : Nat) ∧ ((i % 16 : Nat) : Int) < r.f2 := by
  unfold inRun
  simp only [Bool.and_eq_true, decide_eq_true_eq]
  exact ⟨fun h => ⟨h.1.1, h.1.2, h.2⟩, fun h => ⟨⟨h.1, h.2.1⟩, h.2.2⟩⟩
theorem gridF_cons (r : S45) (t : List S45) (i : Nat) : gridF (r :: t) i = (inRun r i || gridF t i) := by simp [gridF]
theorem gridF_iff (l : List S45) (i : Nat) : gridF l i = true ↔ ∃ r ∈ l, inRun r i = true := by
  unfold gridF
  rw [List.any_eq_true]
theorem vTail {r : S45} {t : List S45} (h : Valid (r :: t)) : Valid t := ⟨fun x hx => h.1 x (by simp [hx]), (List.pairwise_cons.1 h.2).2⟩
theorem vHead {r : S45} {t : List S45} (h : Valid (r :: t)) : okRun r := h.1 r (by simp)
theorem vApart {r : S45} {t : List S45} (h : Valid (r :: t)) (i : Nat) (h1 : inRun r i = true) : gridF t i = false := by
  rw [Bool.eq_false_iff]
  intro h2
  obtain ⟨q, hq, hi⟩ := (gridF_iff t i).1 h2
  have hb := (List.pairwise_cons.1 h.2).1 q hq
  have a1 := (inRun_iff r i).1 h1
  have a2 := (inRun_iff q i).1 hi
  unfold before at hb
  omega
/-- The first pixel of a region. -/
theorem vFirst {r : S45} {t : List S45} (h : Valid (r :: t)) (i : Nat) (hi : gridF (r :: t) i = true) : r.f0 < (i / 16 : Nat) ∨ (r.f0 = (i / 16 : Nat) ∧ r.f1 ≤ (i % 16 : Nat)) := by
  have hr := (vHead h)
  rw [gridF_cons, Bool.or_eq_true] at hi
  rcases hi with hi | hi
  · have := (inRun_iff r i).1 hi
    omega
  · obtain ⟨q, hq, hqi⟩ := (gridF_iff t i).1 hi
    have hb := (List.pairwise_cons.1 h.2).1 q hq
    have a2 := (inRun_iff q i).1 hqi
    unfold before okRun at *
    omega
theorem run_first (r : S45) (h : okRun r) : inRun r (16 * r.f0.toNat + r.f1.toNat) = true ∧ 16 * r.f0.toNat + r.f1.toNat < 256 := by
  unfold okRun at h
  rw [inRun_iff]
  omega
theorem vEnds {r : S45} {t : List S45} (h : Valid (r :: t)) (h16 : r.f2 < 16) : gridF (r :: t) (16 * r.f0.toNat + r.f2.toNat) = false := by
  have hr := (vHead h)
  unfold okRun at hr
  rw [Bool.eq_false_iff]
  intro hi
  obtain ⟨q, hq, hqi⟩ := (gridF_iff (r :: t) _).1 hi
  have a2 := (inRun_iff q _).1 hqi
  rcases List.mem_cons.1 hq with rfl | hq
  · omega
  · have hb := (List.pairwise_cons.1 h.2).1 q hq
    unfold before at hb
    omega
theorem run_pix (r : S45) (h : okRun r) (c : Nat) (h1 : r.f1 ≤ (c : Int)) (h2 : (c : Int) < r.f2) : inRun r (16 * r.f0.toNat + c) = true ∧ 16 * r.f0.toNat + c < 256 := by
  unfold okRun at h
  rw [inRun_iff]
  omega
theorem valid_unique : ∀ (l l' : List S45), Valid l → Valid l' → (∀ i, i < 256 → gridF l i = gridF l' i) → l = l'
  | [], [], _, _, _ => rfl
  | [], r' :: t', _, h', hg => by
    have h1 := run_first r' (vHead h')
    have := hg _ h1.2
    rw [gridF_cons, h1.1] at this
    simp [gridF] at this
  | r :: t, [], h, _, hg => by
    have h1 := run_first r (vHead h)
    have := hg _ h1.2
    rw [gridF_cons, h1.1] at this
    simp [gridF] at this
  | r :: t, r' :: t', h, h', hg => by
    have hr := (vHead h)
    have hr' := (vHead h')
    have p1 := run_first r hr
    have p2 := run_first r' hr'
    have q1 := (vFirst h') _ (by rw [← hg _ p1.2, gridF_cons, p1.1]; rfl)
    have q2 := (vFirst h) _ (by rw [hg _ p2.2, gridF_cons, p2.1]; rfl)
    have hrow : r.f0 = r'.f0 ∧ r.f1 = r'.f1 := by
      unfold okRun at hr hr'
      omega
    have hend : r.f2 = r'.f2 := by
      rcases Int.lt_trichotomy r.f2 r'.f2 with hh | hh | hh
      · have e1 := (vEnds h) (by unfold okRun at hr'; omega)
        have e2 := run_pix r' hr' r.f2.toNat (by unfold okRun at hr; omega) (by unfold okRun at hr; omega)
        rw [← hrow.1] at e2
        have := hg _ e2.2
        rw [e1, gridF_cons, e2.1] at this
        simp at this
      · exact hh
      · have e1 := (vEnds h') (by unfold okRun at hr; omega)
        have e2 := run_pix r hr r'.f2.toNat (by unfold okRun at hr'; omega) (by unfold okRun at hr'; omega)
        rw [hrow.1] at e2
        have := hg _ e2.2
        rw [e1, gridF_cons, e2.1] at this
        simp at this
    have hrr : r = r' := by
      cases r
      cases r'
      simp only [] at hrow hend
      obtain ⟨rfl, rfl⟩ := hrow
      subst hend
      rfl
    subst hrr
    congr 1
    refine valid_unique t t' (vTail h) (vTail h') fun i hi => ?_
    have := hg i hi
    rw [gridF_cons, gridF_cons] at this
    cases hin : inRun r i with
    | true => rw [(vApart h) i hin, (vApart h') i hin]
    | false => rwa [hin, Bool.false_or, Bool.false_or] at this
theorem runsL_gridF (l : List S45) (h : Valid l) : runsL (gridF l) = l := valid_unique _ _ (runsL_valid _) h fun i hi => gridF_runsL _ i hi
theorem valid_length (l : List S45) (h : Valid l) : l.length ≤ 256 := by
  rw [← runsL_gridF l h]
  exact runsUpto_length _ 256
theorem runsL_inj {f g : Nat → Bool} (h : runsL f = runsL g) (i : Nat) (hi : i < 256) : f i = g i := by
  rw [← gridF_runsL f i hi, h, gridF_runsL g i hi]
theorem runsL_nil_iff (f : Nat → Bool) : runsL f = [] ↔ ∀ i, i < 256 → f i = false := by
  constructor
  · intro h i hi
    rw [← gridF_runsL f i hi, h]
    rfl
  · intro h
    refine valid_unique _ _ (runsL_valid _) ⟨fun r hr => by simp at hr, List.Pairwise.nil⟩ fun i hi => ?_
    rw [gridF_runsL f i hi, h i hi]
    rfl
/-! ### Counting pixels -/
def cnt (f : Nat → Bool) (n : Nat) : Nat := ((List.range n).filter f).length
theorem cnt_zero (f : Nat → Bool) : cnt f 0 = 0 := rfl
theorem cnt_succ (f : Nat → Bool) (n : Nat) : cnt f (n + 1) = cnt f n + if f n = true then 1 else 0 := by
  unfold cnt
  rw [List.range_succ, List.filter_append]
  cases h : f n <;> simp [h]
theorem cnt_le (f : Nat → Bool) (n : Nat) : cnt f n ≤ n := by
  unfold cnt
  have := List.length_filter_le f (List.range n)
  simpa using this
theorem cnt_congr {f g : Nat → Bool} (n : Nat) (h : ∀ i, i < n → f i = g i) : cnt f n = cnt g n := by
  induction n with
  | zero => rfl
  | succ n ih => rw [cnt_succ, cnt_succ, ih (fun i hi => h i (by omega)), h n (by omega)]
theorem cnt_add (f g : Nat → Bool) (n : Nat) (h : ∀ i, i < n → f i = true → g i = false) : cnt (fun i => f i || g i) n = cnt f n + cnt g n := by
  induction n with
  | zero => rfl
  | succ n ih =>
    rw [cnt_succ, cnt_succ, cnt_succ, ih (fun i hi => h i (by omega))]
    cases hf : f n with
    | true =>
      have := h n (by omega) hf
      rw [this]
      simp
      omega
    | false => simp; omega
theorem cnt_inRun (r : S45) (h : okRun r) : (cnt (inRun r) 256 : Int) = r.f2 - r.f1 := by
  obtain ⟨y, hy⟩ : ∃ y : Nat, r.f0 = y := ⟨r.f0.toNat, by unfold okRun at h; omega⟩
  obtain ⟨a, ha⟩ : ∃ a : Nat, r.f1 = a := ⟨r.f1.toNat, by unfold okRun at h; omega⟩
  obtain ⟨e, he⟩ : ∃ e : Nat, r.f2 = e := ⟨r.f2.toNat, by unfold okRun at h; omega⟩
  unfold okRun at h
  have key : ∀ n, n ≤ 256 → cnt (inRun r) n = if n ≤ 16 * y + a then 0 else if n ≤ 16 * y + e then n - (16 * y + a) else e - a := by
    intro n
    induction n with
    | zero => intro _; rw [cnt_zero]; split <;> omega
    | succ n ih =>
      intro hn
      rw [cnt_succ, ih (by omega)]
      have hi : inRun r n = true ↔ (16 * y + a ≤ n ∧ n < 16 * y + e) := by
        rw [inRun_iff]
        omega
      by_cases hin : 16 * y + a ≤ n ∧ n < 16 * y + e
      · rw [if_pos (hi.2 hin)]
        split <;> split <;> (try split) <;> (try split) <;> omega
      · rw [if_neg (fun h => hin (hi.1 h))]
        split <;> split <;> (try split) <;> (try split) <;> omega
  rw [key 256 (Nat.le_refl _)]
  split
  · omega
  · split <;> omega
/-- The sum of the runs' lengths. -/
def areaL : List S45 → Int
  | [] => 0
  | r :: t => (r.f2 - r.f1) + areaL t
theorem areaL_cnt : ∀ l : List S45, Valid l → areaL l = (cnt (gridF l) 256 : Int)
  | [], _ => by
    have : cnt (gridF []) 256 = 0 := by
      have : ∀ n, cnt (gridF []) n = 0 := fun n => by
        induction n with
        | zero => rfl
        | succ n ih => rw [cnt_succ, ih]; simp [gridF]
      exact this 256
    rw [this]
    rfl
  | r :: t, h => by
    rw [areaL, areaL_cnt t (vTail h), ← cnt_inRun r (vHead h)]
    have e : cnt (gridF (r :: t)) 256 = cnt (fun i => inRun r i || gridF t i) 256 := cnt_congr 256 fun i _ => gridF_cons r t i
    rw [e, cnt_add _ _ _ (fun i _ hi => (vApart h) i hi)]
    omega

theorem mn_le (a b : Int) : mn a b ≤ a ∧ mn a b ≤ b ∧ (mn a b = a ∨ mn a b = b) := by
  unfold mn
  split <;> omega
theorem mx_ge (a b : Int) : a ≤ mx a b ∧ b ≤ mx a b ∧ (mx a b = a ∨ mx a b = b) := by
  unfold mx
  split <;> omega
def leftL (a : Int) : List S45 → Int
  | [] => a
  | r :: t => leftL (mn a r.f1) t
def rightL (a : Int) : List S45 → Int
  | [] => a
  | r :: t => rightL (mx a r.f2) t
theorem leftL_facts : ∀ (l : List S45) (a : Int), leftL a l ≤ a ∧ (∀ r ∈ l, leftL a l ≤ r.f1) ∧ (leftL a l = a ∨ ∃ r ∈ l, leftL a l = r.f1)
  | [], a => ⟨by simp [leftL], fun r hr => by simp at hr, .inl rfl⟩
  | r :: t, a => by
    obtain ⟨h1, h2, h3⟩ := leftL_facts t (mn a r.f1)
    have hm := mn_le a r.f1
    simp only [leftL]
    refine ⟨by omega, fun q hq => ?_, ?_⟩
    · rcases List.mem_cons.1 hq with rfl | hq
      · omega
      · exact h2 q hq
    · rcases h3 with h3 | ⟨q, hq, h3⟩
      · rcases hm.2.2 with h4 | h4
        · exact .inl (by omega)
        · exact .inr ⟨r, by simp, by omega⟩
      · exact .inr ⟨q, by simp [hq], h3⟩
theorem rightL_facts : ∀ (l : List S45) (a : Int), a ≤ rightL a l ∧ (∀ r ∈ l, r.f2 ≤ rightL a l) ∧ (rightL a l = a ∨ ∃ r ∈ l, rightL a l = r.f2)
  | [], a => ⟨by simp [rightL], fun r hr => by simp at hr, .inl rfl⟩
  | r :: t, a => by
    obtain ⟨h1, h2, h3⟩ := rightL_facts t (mx a r.f2)
    have hm := mx_ge a r.f2
    simp only [rightL]
    refine ⟨by omega, fun q hq => ?_, ?_⟩
    · rcases List.mem_cons.1 hq with rfl | hq
      · omega
      · exact h2 q hq
    · rcases h3 with h3 | ⟨q, hq, h3⟩
      · rcases hm.2.2 with h4 | h4
        · exact .inl (by omega)
        · exact .inr ⟨r, by simp, by omega⟩
      · exact .inr ⟨q, by simp [hq], h3⟩
theorem leftL_drop (l : List S45) (a : Int) (i : Nat) (h : i < l.length) : leftL a (l.drop i) = leftL (mn a l[i].f1) (l.drop (i + 1)) := by
  rw [drop_cons_ l i h]
  rfl
theorem rightL_drop (l : List S45) (a : Int) (i : Nat) (h : i < l.length) : rightL a (l.drop i) = rightL (mx a l[i].f2) (l.drop (i + 1)) := by
  rw [drop_cons_ l i h]
  rfl
/-- The first and the last row. -/
def topL (l : List S45) : Int := (rd_T45 l 0).f0
def lowL (l : List S45) : Int := (rd_T45 l ((l.length - 1 : Nat) : Int)).f0
theorem row_bounds (l : List S45) (h : Valid l) (r : S45) (hr : r ∈ l) : topL l ≤ r.f0 ∧ r.f0 ≤ lowL l := by
  obtain ⟨i, hi, rfl⟩ := List.getElem_of_mem hr
  have hp := List.pairwise_iff_getElem.1 h.2
  unfold topL lowL
  rw [show (0 : Int) = ((0 : Nat) : Int) from rfl, rdRun_get l 0 (by omega), rdRun_get l (l.length - 1) (by omega)]
  refine ⟨?_, ?_⟩
  · rcases Nat.eq_zero_or_pos i with h0 | h0
    · subst h0
      exact Int.le_refl _
    · have := hp 0 i (by omega) hi h0
      unfold before at this
      omega
  · rcases Nat.lt_or_ge i (l.length - 1) with h0 | h0
    · have := hp i (l.length - 1) hi (by omega) h0
      unfold before at this
      omega
    · have e : i = l.length - 1 := by omega
      subst e
      exact Int.le_refl _
theorem topL_mem (l : List S45) (h0 : 0 < l.length) : ∃ r ∈ l, r.f0 = topL l := by
  refine ⟨l[0], List.getElem_mem _, ?_⟩
  unfold topL
  rw [show (0 : Int) = ((0 : Nat) : Int) from rfl, rdRun_get l 0 h0]
theorem lowL_mem (l : List S45) (h0 : 0 < l.length) : ∃ r ∈ l, r.f0 = lowL l := by
  refine ⟨l[l.length - 1], List.getElem_mem _, ?_⟩
  unfold lowL
  rw [rdRun_get l (l.length - 1) (by omega)]
def boundsR (l : List S45) : Int × Int × Int × Int := (leftL 16 l, topL l, rightL 0 l - leftL 16 l, lowL l - topL l + 1)
theorem bounds_facts (l : List S45) (h : Valid l) (h0 : 0 < l.length) : 0 ≤ leftL 16 l ∧ leftL 16 l < rightL 0 l ∧ rightL 0 l ≤ 16 ∧ 0 ≤ topL l ∧ topL l ≤ lowL l ∧ lowL l ≤ 15 := by
  have hl := leftL_facts l 16
  have hr := rightL_facts l 0
  obtain ⟨t, ht, ht2⟩ := topL_mem l h0
  obtain ⟨b, hb, hb2⟩ := lowL_mem l h0
  have h1 := h.1 t ht
  have h2 := h.1 b hb
  have h3 := hl.2.1 t ht
  have h4 := hr.2.1 t ht
  have h5 := row_bounds l h t ht
  unfold okRun at h1 h2
  refine ⟨?_, by omega, ?_, by omega, by omega, by omega⟩
  · rcases hl.2.2 with e | ⟨q, hq, e⟩
    · omega
    · have := h.1 q hq
      unfold okRun at this
      omega
  · rcases hr.2.2 with e | ⟨q, hq, e⟩
    · omega
    · have := h.1 q hq
      unfold okRun at this
      omega
theorem impl_bounds.ev_l0 (l : List S45) (h : Valid l) (h0 : 0 < l.length) (d : Nat) : ∀ i a c, i ≤ l.length → l.length - i = d → leftL a (l.drop i) = leftL 16 l → rightL c (l.drop i) = rightL 0 l →
    Ev (fun k => impl_bounds.l0 k l a c l (l.length : Int) (i : Int)) (boundsR l) := by
  have hlen := valid_length l h
  have hb := bounds_facts l h h0
  induction d with
  | zero =>
    intro i a c hi hd ha hc
    rw [List.drop_of_length_le (by omega)] at ha hc
    simp only [leftL, rightL] at ha hc
    subst ha
    subst hc
    have e1 : wrap64 ((l.length : Int) - 1) = ((l.length - 1 : Nat) : Int) := by rw [wrapIn (by omega) (by omega)]; omega
    refine Ev.step (fun k => by simp only [impl_bounds.l0, e1]; rfl) (evNeg (by omega) (evPos (by omega) (evPos (by omega) (evPos (by omega) (evRet ?_)))))
    show (leftL 16 l, topL l, wrap64 (rightL 0 l - leftL 16 l), wrap64 (wrap64 (lowL l - topL l) + 1)) = boundsR l
    rw [wrapIn (x := rightL 0 l - leftL 16 l) (by omega) (by omega), wrapIn (x := lowL l - topL l) (by omega) (by omega), wrapIn (x := lowL l - topL l + 1) (by omega) (by omega)]
    rfl
  | succ d ih =>
    intro i a c hi hd ha hc
    rw [leftL_drop l a i (by omega)] at ha
    rw [rightL_drop l c i (by omega)] at hc
    have hr := rdRun_get l i (by omega)
    refine Ev.step (fun k => by simp only [impl_bounds.l0, hr, wrapSucc i (by omega)]; rfl) (evPos (by omega) (evPos (by omega) (evPos (by omega) ?_)))
    exact ih (i + 1) _ _ (by omega) (by omega) ha hc
theorem impl_BoundsOf.ev (l : List S45) (hl : l.length ≤ 9223372036854775807) : Ev (fun k => impl_BoundsOf.f k l) (if Valid l ∧ l ≠ [] then ((boundsR l).1, (boundsR l).2.1, (boundsR l).2.2.1, (boundsR l).2.2.2, true) else (0, 0, 0, 0, false)) := by
  unfold impl_BoundsOf.f
  refine evBind (impl_isRegion.ev l hl) (evIf (fun h => evIf (fun h2 => evRet ?_) (fun h2 => ?_)) (fun h => evRet ?_))
  · rw [if_neg]
    rintro ⟨_, h3⟩
    exact h3 (List.eq_nil_of_length_eq_zero (by omega))
  · rw [decide_eq_true_eq] at h
    have h0 : 0 < l.length := by omega
    rw [if_pos ⟨h, by rintro rfl; simp at h0⟩]
    have := impl_bounds.ev_l0 l h h0 l.length 0 16 0 (by omega) (by omega) (by rw [List.drop_zero]) (by rw [List.drop_zero])
    exact evBind this (evRet rfl)
  · rw [decide_eq_true_eq] at h
    rw [if_neg fun h2 => h h2.1]
/-- The runs of a box. -/
def boxRuns (x y w : Int) : Nat → List S45
  | 0 => []
  | n + 1 => ⟨y, x, x + w⟩ :: boxRuns x (y + 1) w n
theorem boxRuns_mem (x w : Int) (n : Nat) : ∀ (y : Int) (r : S45), r ∈ boxRuns x y w n ↔ y ≤ r.f0 ∧ r.f0 < y + n ∧ r.f1 = x ∧ r.f2 = x + w := by
  induction n with
  | zero => intro y r; simp [boxRuns]; omega
  | succ n ih =>
    intro y r
    simp only [boxRuns, List.mem_cons, ih]
    constructor
    · rintro (rfl | h)
      · refine ⟨Int.le_refl _, ?_, rfl, rfl⟩
        show y < y + ((n + 1 : Nat) : Int)
        omega
      · omega
    · intro h
      by_cases e : r.f0 = y
      · left
        cases r
        simp only [] at e h
        obtain ⟨_, _, rfl, rfl⟩ := h
        subst e
        rfl
      · right; omega
theorem boxRuns_valid (x w : Int) (hx : 0 ≤ x) (hw : 1 ≤ w) (hxw : x + w ≤ 16) (n : Nat) : ∀ y : Int, 0 ≤ y → y + n ≤ 16 → Valid (boxRuns x y w n) := by
  induction n with
  | zero => intro y _ _; exact ⟨fun r hr => by simp [boxRuns] at hr, List.Pairwise.nil⟩
  | succ n ih =>
    intro y h0 h1
    have h := ih (y + 1) (by omega) (by omega)
    refine ⟨fun r hr => ?_, List.pairwise_cons.2 ⟨fun q hq => ?_, h.2⟩⟩
    · have := (boxRuns_mem x w (n + 1) y r).1 hr
      unfold okRun
      omega
    · have := (boxRuns_mem x w n (y + 1) q).1 hq
      unfold before
      simp only []
      omega
theorem boxRuns_area (x w : Int) (n : Nat) : ∀ y : Int, areaL (boxRuns x y w n) = w * n := by
  induction n with
  | zero => intro y; simp [boxRuns, areaL]
  | succ n ih =>
    intro y
    simp only [boxRuns, areaL, ih (y + 1)]
    rw [show ((n + 1 : Nat) : Int) = (n : Int) + 1 from rfl, Int.mul_add, Int.mul_one]
    omega
theorem cnt_mono {f g : Nat → Bool} (n : Nat) (h : ∀ i, i < n → f i = true → g i = true) : cnt f n ≤ cnt g n := by
  induction n with
  | zero => exact Nat.le_refl _
  | succ n ih =>
    rw [cnt_succ, cnt_succ]
    have := ih (fun i hi => h i (by omega))
    by_cases hf : f n = true
    · rw [if_pos hf, if_pos (h n (by omega) hf)]
      omega
    · rw [if_neg hf]
      omega
theorem area_le_box (l : List S45) (h : Valid l) (h0 : 0 < l.length) : areaL l ≤ (boundsR l).2.2.1 * (boundsR l).2.2.2 := by
  have hb := bounds_facts l h h0
  obtain ⟨n, hn⟩ : ∃ n : Nat, lowL l - topL l + 1 = (n : Int) := ⟨(lowL l - topL l + 1).toNat, by omega⟩
  show areaL l ≤ (rightL 0 l - leftL 16 l) * (lowL l - topL l + 1)
  rw [hn]
  have hv := boxRuns_valid (leftL 16 l) (rightL 0 l - leftL 16 l) (by omega) (by omega) (by omega) n (topL l) (by omega) (by omega)
  rw [← boxRuns_area (leftL 16 l) (rightL 0 l - leftL 16 l) n (topL l), areaL_cnt l h, areaL_cnt _ hv]
  have := cnt_mono (f := gridF l) (g := gridF (boxRuns (leftL 16 l) (topL l) (rightL 0 l - leftL 16 l) n)) 256 (fun i hi hf => by
    obtain ⟨r, hr, hin⟩ := (gridF_iff l i).1 hf
    have h1 := (inRun_iff r i).1 hin
    have h2 := row_bounds l h r hr
    have h3 := (leftL_facts l 16).2.1 r hr
    have h4 := (rightL_facts l 0).2.1 r hr
    refine (gridF_iff _ i).2 ⟨⟨(i / 16 : Nat), leftL 16 l, leftL 16 l + (rightL 0 l - leftL 16 l)⟩, (boxRuns_mem _ _ _ _ _).2 ⟨?_, ?_, rfl, rfl⟩, (inRun_iff _ i).2 ⟨rfl, ?_, ?_⟩⟩
    · simp only []; omega
    · simp only []; omega
    · simp only []; omega
    · simp only []; omega)
  omega
theorem area_pos (l : List S45) (h : Valid l) (h0 : 0 < l.length) : 0 < areaL l := by
  match l, h0 with
  | r :: t, _ =>
    have h1 := areaL_cnt t (vTail h)
    have h2 := vHead h
    unfold okRun at h2
    simp only [areaL]
    omega

/-- The box of a grid, from its pixels. -/
theorem bounds_eq (f : Nat → Bool) (a b c d : Nat) (hin : ∀ i, i < 256 → f i = true → (a ≤ i % 16 ∧ i % 16 ≤ b) ∧ (c ≤ i / 16 ∧ i / 16 ≤ d))
    (ha : ∃ i, i < 256 ∧ f i = true ∧ i % 16 = a) (hb : ∃ i, i < 256 ∧ f i = true ∧ i % 16 = b) (hc : ∃ i, i < 256 ∧ f i = true ∧ i / 16 = c) (hd : ∃ i, i < 256 ∧ f i = true ∧ i / 16 = d) :
    runsL f ≠ [] ∧ leftL 16 (runsL f) = a ∧ rightL 0 (runsL f) = (b : Int) + 1 ∧ topL (runsL f) = c ∧ lowL (runsL f) = d := by
  have hv := runsL_valid f
  have hrun : ∀ i, i < 256 → f i = true → ∃ r ∈ runsL f, r.f0 = (i / 16 : Nat) ∧ r.f1 ≤ (i % 16 : Nat) ∧ ((i % 16 : Nat) : Int) < r.f2 := fun i hi h => by
    rw [← gridF_runsL f i hi] at h
    obtain ⟨r, hr, h2⟩ := (gridF_iff _ _).1 h
    exact ⟨r, hr, (inRun_iff r i).1 h2⟩
  have hpix : ∀ r ∈ runsL f, ∀ x : Nat, r.f1 ≤ (x : Int) → (x : Int) < r.f2 → ((a : Int) ≤ x ∧ (x : Int) ≤ b) ∧ ((c : Int) ≤ r.f0 ∧ r.f0 ≤ d) := fun r hr x h1 h2 => by
    have hk := hv.1 r hr
    have hp := run_pix r hk x h1 h2
    have hf : f (16 * r.f0.toNat + x) = true := by
      rw [← gridF_runsL f _ hp.2]
      exact (gridF_iff _ _).2 ⟨r, hr, hp.1⟩
    have hk2 : 0 ≤ r.f0 ∧ r.f2 ≤ 16 := ⟨hk.1, hk.2.2.2.2⟩
    have := hin _ hp.2 hf
    clear hin
    omega
  have hne : runsL f ≠ [] := by
    obtain ⟨i, hi, h, _⟩ := ha
    obtain ⟨r, hr, _⟩ := hrun i hi h
    exact List.ne_nil_of_mem hr
  have h0 : 0 < (runsL f).length := List.length_pos_iff.mpr hne
  obtain ⟨l1, l2, l3⟩ := leftL_facts (runsL f) 16
  obtain ⟨r1, r2, r3⟩ := rightL_facts (runsL f) 0
  have ok2 : ∀ r ∈ runsL f, 0 ≤ r.f1 ∧ r.f1 < r.f2 ∧ r.f2 ≤ 16 := fun r hr => ⟨(hv.1 r hr).2.2.1, (hv.1 r hr).2.2.2.1, (hv.1 r hr).2.2.2.2⟩
  refine ⟨hne, ?_, ?_, ?_, ?_⟩
  · obtain ⟨i, hi, h, e⟩ := ha
    obtain ⟨r, hr, q1, q2, q3⟩ := hrun i hi h
    have hl := l2 r hr
    rcases l3 with h3 | ⟨s, hs, h3⟩
    · omega
    · have hk := ok2 s hs
      obtain ⟨x, hx⟩ := Int.eq_ofNat_of_zero_le hk.1
      have := hpix s hs x (by omega) (by omega)
      omega
  · obtain ⟨i, hi, h, e⟩ := hb
    obtain ⟨r, hr, q1, q2, q3⟩ := hrun i hi h
    have hl := r2 r hr
    rcases r3 with h3 | ⟨s, hs, h3⟩
    · omega
    · have hk := ok2 s hs
      obtain ⟨x, hx⟩ := Int.eq_ofNat_of_zero_le (show 0 ≤ s.f2 - 1 by omega)
      have := hpix s hs x (by omega) (by omega)
      omega
  · obtain ⟨i, hi, h, e⟩ := hc
    obtain ⟨r, hr, q1, q2, q3⟩ := hrun i hi h
    have hl := (row_bounds _ hv r hr).1
    obtain ⟨s, hs, h3⟩ := topL_mem _ h0
    have hk := ok2 s hs
    obtain ⟨x, hx⟩ := Int.eq_ofNat_of_zero_le hk.1
    have := hpix s hs x (by omega) (by omega)
    omega
  · obtain ⟨i, hi, h, e⟩ := hd
    obtain ⟨r, hr, q1, q2, q3⟩ := hrun i hi h
    have hl := (row_bounds _ hv r hr).2
    obtain ⟨s, hs, h3⟩ := lowL_mem _ h0
    have hk := ok2 s hs
    obtain ⟨x, hx⟩ := Int.eq_ofNat_of_zero_le hk.1
    have := hpix s hs x (by omega) (by omega)
    omega

theorem cnt_single (P n : Nat) (h : P < n) : cnt (fun p => decide (p = P)) n = 1 := by
  induction n with
  | zero => omega
  | succ n ih =>
    rw [cnt_succ]
    by_cases e : n = P
    · subst e
      rw [if_pos (by simp)]
      have : cnt (fun p => decide (p = n)) n = 0 := by
        rw [cnt_congr (g := fun _ => false) n (fun i hi => decide_eq_false (by omega))]
        unfold cnt
        simp
      omega
    · rw [if_neg (by simpa using e), ih (by omega)]
theorem cnt_lineUpto (x0 y0 x1 y1 : Int) (n : Nat) (h1 : ∀ j, j ≤ n → linePix x0 y0 x1 y1 j < 256) (h2 : ∀ i j, i < j → j ≤ n → linePix x0 y0 x1 y1 i ≠ linePix x0 y0 x1 y1 j) : ∀ k, k ≤ n + 1 → cnt (lineUpto x0 y0 x1 y1 k) 256 = k := by
  intro k
  induction k with
  | zero =>
    intro _
    rw [cnt_congr (g := fun _ => false) 256 (fun i hi => by simp [lineUpto])]
    unfold cnt
    simp
  | succ k ih =>
    intro hk
    rw [cnt_congr 256 (fun i _ => lineUpto_succ x0 y0 x1 y1 k i), cnt_add, ih (by omega), cnt_single _ _ (h1 k (by omega))]
    intro i hi ht
    unfold lineUpto at ht
    rw [List.any_eq_true] at ht
    obtain ⟨j, hj, he⟩ := ht
    rw [decide_eq_true_eq] at he
    rw [List.mem_range] at hj
    rw [decide_eq_false_iff_not, he]
    exact h2 j k hj (by omega)
theorem lineAt_axis (a d n : Int) (j : Nat) (hn : 0 < n) (hd : d = n ∨ d = -n) : lineAt a d n j = if d = n then a + j else a - j := by
  unfold lineAt
  rcases hd with h | h
  · subst h
    rw [if_pos rfl]
    have : (2 * ((j : Int) * d) + d) / (2 * d) = j := by
      rw [show 2 * ((j : Int) * d) + d = d + (2 * d) * j by rw [Int.mul_assoc, Int.mul_comm d]; omega, Int.add_mul_ediv_left _ _ (by omega), Int.ediv_eq_zero_of_lt (by omega) (by omega)]
      omega
    omega
  · subst h
    rw [if_neg (by omega)]
    have : (2 * ((j : Int) * -n) + n) / (2 * n) = -j := by
      rw [show 2 * ((j : Int) * -n) + n = n + (2 * n) * (-j) by
        have e1 : (j : Int) * -n = -(n * j) := by rw [Int.mul_neg, Int.mul_comm]
        have e2 : (2 * n) * (-(j : Int)) = -(2 * (n * j)) := by rw [Int.mul_neg, Int.mul_assoc]
        rw [e1, e2]; omega, Int.add_mul_ediv_left _ _ (by omega), Int.ediv_eq_zero_of_lt (by omega) (by omega)]
      omega
    omega
theorem absI_or (d n : Int) (h : n = absI d) : d = n ∨ d = -n := by
  unfold absI at h
  split at h <;> omega
theorem lineAt_end (a d n : Int) (j : Nat) (hn : 0 ≤ n) (hj : (j : Int) = n) (hd : absI d ≤ n) : lineAt a d n j = a + d := by
  unfold lineAt
  rcases Int.lt_or_eq_of_le hn with h | h
  · rw [hj, show 2 * (n * d) + n = n + (2 * n) * d by rw [Int.mul_assoc]; omega, Int.add_mul_ediv_left _ _ (by omega), Int.ediv_eq_zero_of_lt (by omega) (by omega)]
    omega
  · subst h
    have : d = 0 := by unfold absI at hd; split at hd <;> omega
    subst this
    simp
/-- A place of a line. -/
theorem line_pix (x0 y0 x1 y1 : Int) (hk : lineOk x0 y0 x1 y1) (n : Nat) (hn : lineN x0 y0 x1 y1 = n) (j : Nat) (hj : j ≤ n) :
    ∃ X Y : Nat, X < 16 ∧ Y < 16 ∧ lineAt x0 (x1 - x0) n j = X ∧ lineAt y0 (y1 - y0) n j = Y ∧ linePix x0 y0 x1 y1 j = 16 * Y + X := by
  obtain ⟨⟨p0, p1⟩, ⟨p2, p3⟩, ⟨p4, p5⟩, ⟨p6, p7⟩⟩ := hk
  obtain ⟨q1, q2, q3⟩ := lineN_facts x0 y0 x1 y1
  rw [hn] at q1 q2
  have hb : (0 ≤ lineAt x0 (x1 - x0) n j ∧ lineAt x0 (x1 - x0) n j < 16) ∧ (0 ≤ lineAt y0 (y1 - y0) n j ∧ lineAt y0 (y1 - y0) n j < 16) := by
    rcases Nat.eq_zero_or_pos n with h | h
    · subst h
      obtain rfl : j = 0 := by omega
      rw [lineAt_zero _ _ _ (by omega), lineAt_zero _ _ _ (by omega)]
      omega
    · exact ⟨lineAt_bounds x0 x1 n j p0 p1 p4 p5 (by omega) (by omega) q1, lineAt_bounds y0 y1 n j p2 p3 p6 p7 (by omega) (by omega) q2⟩
  obtain ⟨X, hX⟩ := Int.eq_ofNat_of_zero_le hb.1.1
  obtain ⟨Y, hY⟩ := Int.eq_ofNat_of_zero_le hb.2.1
  refine ⟨X, Y, by omega, by omega, hX, hY, ?_⟩
  unfold linePix
  rw [hn, hX, hY]
  rfl
theorem lineN_nat (x0 y0 x1 y1 : Int) (hk : lineOk x0 y0 x1 y1) : ∃ n : Nat, lineN x0 y0 x1 y1 = n ∧ n ≤ 15 := by
  obtain ⟨⟨p0, p1⟩, ⟨p2, p3⟩, ⟨p4, p5⟩, ⟨p6, p7⟩⟩ := hk
  obtain ⟨q1, q2, q3⟩ := lineN_facts x0 y0 x1 y1
  have b1 := absI_bounds x0 x1 p0 p1 p4 p5
  have b2 := absI_bounds y0 y1 p2 p3 p6 p7
  obtain ⟨n, hn⟩ := Int.eq_ofNat_of_zero_le (show 0 ≤ lineN x0 y0 x1 y1 by omega)
  exact ⟨n, hn, by omega⟩
theorem lineF_iff (x0 y0 x1 y1 : Int) (n : Nat) (hn : lineN x0 y0 x1 y1 = n) (p : Nat) : lineF x0 y0 x1 y1 p = true ↔ ∃ j, j ≤ n ∧ p = linePix x0 y0 x1 y1 j := by
  unfold lineF lineUpto
  rw [hn, List.any_eq_true]
  constructor
  · rintro ⟨j, hj, he⟩
    rw [List.mem_range] at hj
    exact ⟨j, by omega, by simpa using he⟩
  · rintro ⟨j, hj, he⟩
    exact ⟨j, List.mem_range.2 (by omega), by simpa using he⟩
/-- A line has one place a step. -/
theorem line_area (x0 y0 x1 y1 : Int) (hk : lineOk x0 y0 x1 y1) (n : Nat) (hn : lineN x0 y0 x1 y1 = n) : cnt (lineF x0 y0 x1 y1) 256 = n + 1 := by
  have h1 : ∀ j, j ≤ n → linePix x0 y0 x1 y1 j < 256 := fun j hj => by
    obtain ⟨X, Y, hX, hY, _, _, he⟩ := line_pix x0 y0 x1 y1 hk n hn j hj
    omega
  have h2 : ∀ i j, i < j → j ≤ n → linePix x0 y0 x1 y1 i ≠ linePix x0 y0 x1 y1 j := fun i j hij hj => by
    obtain ⟨X, Y, hX, hY, eX, eY, he⟩ := line_pix x0 y0 x1 y1 hk n hn i (by omega)
    obtain ⟨X', Y', hX', hY', eX', eY', he'⟩ := line_pix x0 y0 x1 y1 hk n hn j hj
    obtain ⟨q1, q2, q3⟩ := lineN_facts x0 y0 x1 y1
    rw [hn] at q3
    rw [he, he']
    rcases q3 with h | h
    · rw [lineAt_axis _ _ _ _ (by omega) (absI_or _ _ h)] at eX eX'
      split at eX <;> omega
    · rw [lineAt_axis _ _ _ _ (by omega) (absI_or _ _ h)] at eY eY'
      split at eY <;> omega
  have := cnt_lineUpto x0 y0 x1 y1 n h1 h2 (n + 1) (by omega)
  rw [← this]
  refine cnt_congr 256 fun p _ => ?_
  unfold lineF
  rw [hn]
  rfl
theorem line_first (x0 y0 x1 y1 : Int) (hk : lineOk x0 y0 x1 y1) : linePix x0 y0 x1 y1 0 = 16 * y0.toNat + x0.toNat := by
  obtain ⟨n, hn, _⟩ := lineN_nat x0 y0 x1 y1 hk
  unfold linePix
  rw [hn, lineAt_zero _ _ _ (by omega), lineAt_zero _ _ _ (by omega)]
theorem line_last (x0 y0 x1 y1 : Int) (hk : lineOk x0 y0 x1 y1) (n : Nat) (hn : lineN x0 y0 x1 y1 = n) : linePix x0 y0 x1 y1 n = 16 * y1.toNat + x1.toNat := by
  obtain ⟨q1, q2, q3⟩ := lineN_facts x0 y0 x1 y1
  rw [hn] at q1 q2
  unfold linePix
  rw [hn, lineAt_end _ _ _ _ (by omega) rfl q1, lineAt_end _ _ _ _ (by omega) rfl q2, show y0 + (y1 - y0) = y1 by omega, show x0 + (x1 - x0) = x1 by omega]
theorem lineN_swap (x0 y0 x1 y1 : Int) : lineN y0 x0 y1 x1 = lineN x0 y0 x1 y1 := by
  unfold lineN mx
  split <;> split <;> omega
theorem areaL_runsL (f : Nat → Bool) : areaL (runsL f) = (cnt f 256 : Int) := by
  rw [areaL_cnt _ (runsL_valid f), cnt_congr 256 fun i hi => gridF_runsL f i hi]

theorem laws_equalRuns.refl_l0 (a : List S45) (hl : a.length ≤ 9223372036854775806) (d : Nat) : ∀ i, i ≤ a.length → a.length - i = d →
    Ev (fun k => laws_equalRuns.l0 k a a (i : Int)) true := by
  induction d with
  | zero =>
    intro i hi hd
    exact Ev.step (fun k => by simp only [laws_equalRuns.l0]; rfl) (evNeg (by omega) (evRet rfl))
  | succ d ih =>
    intro i hi hd
    have hw : wrap64 ((i : Int) + 1) = ((i + 1 : Nat) : Int) := wrapSucc i (by omega)
    have := ih (i + 1) (by omega) (by omega)
    refine Ev.step (f := fun k => laws_equalRuns.l0 k a a ((i + 1 : Nat) : Int)) (fun k => ?_) this
    simp only [laws_equalRuns.l0, hw]
    rw [if_pos (by omega), if_pos (by omega), if_pos (by omega)]
    simp
theorem laws_equalRuns.refl (a : List S45) (hl : a.length ≤ 9223372036854775806) : Ev (fun k => laws_equalRuns.f k a a) true := by
  unfold laws_equalRuns.f
  exact evPos rfl (laws_equalRuns.refl_l0 a hl a.length 0 (by omega) (by omega))

/-! ### Grids as lists of 256 -/
def gl (f : Nat → Bool) : List Bool := (List.range 256).map f
theorem gl_length (f : Nat → Bool) : (gl f).length = 256 := by simp [gl]
theorem gl_rd (f : Nat → Bool) (i : Nat) (h : i < 256) : rdOf false (gl f) (i : Int) = f i := by
  simp [rdOf, gl, List.getD_eq_getElem?_getD, List.getElem?_map, List.getElem?_range h]
theorem gl_get (f : Nat → Bool) (j : Nat) (h : j < (gl f).length) : (gl f)[j] = f j := by simp [gl]
theorem gl_set (f : Nat → Bool) (i : Nat) (b : Bool) : (gl f).set i b = gl (fun j => if j = i then b else f j) := by
  apply List.ext_getElem
  · simp [gl]
  · intro j h1 h2
    simp only [List.getElem_set, gl, List.getElem_map, List.getElem_range]
    by_cases h : i = j
    · subst h; simp
    · rw [if_neg h, if_neg (fun e => h e.symm)]
theorem gl_congr {f g : Nat → Bool} (h : ∀ i, i < 256 → f i = g i) : gl f = gl g := by
  unfold gl
  exact List.map_congr_left fun i hi => h i (by simpa using hi)
theorem gl_false : List.replicate 256 false = gl (fun _ => false) := by
  apply List.ext_getElem
  · rw [List.length_replicate, gl_length]
  · intro j h1 h2
    rw [List.getElem_replicate, gl_get]
theorem runAt_congr {f g : Nat → Bool} (h : ∀ i, i < 256 → f i = g i) (i : Nat) (hi : i < 256) : runAt f i = runAt g i := by
  have he : ∀ y, y < 16 → ∀ d, d ≤ 16 → endAt f y d = endAt g y d := by
    intro y hy d
    induction d with
    | zero => intro _; rfl
    | succ d ih =>
      intro hd
      simp only [endAt]
      rw [h (16 * y + (15 - d)) (by omega), ih (by omega)]
  have hs : startB f i = startB g i := by
    unfold startB
    rw [h i hi, h (i - 1) (by omega)]
  unfold runAt endOf
  rw [hs, he (i / 16) (by omega) _ (by omega)]
theorem runsL_congr {f g : Nat → Bool} (h : ∀ i, i < 256 → f i = g i) : runsL f = runsL g := by
  unfold runsL runsUpto
  have : ∀ l : List Nat, (∀ i ∈ l, i < 256) → l.filterMap (runAt f) = l.filterMap (runAt g) := by
    intro l
    induction l with
    | nil => intro _; rfl
    | cons a t ih =>
      intro hl
      rw [List.filterMap_cons, List.filterMap_cons, runAt_congr h a (hl a (by simp)), ih (fun i hi => hl i (by simp [hi]))]
  exact this _ (fun i hi => by simpa using hi)

/-- The reference's runs of a row, from column x on. -/
def RowAt (f : Nat → Bool) (y : Nat) (out : List S45) (fr : Int) (x : Nat) : Prop :=
  (fr = -1 ∧ (x = 0 ∨ f (16 * y + x - 1) = false) ∧ out = runsUpto f (16 * y + x)) ∨
  ∃ a : Nat, fr = (a : Int) ∧ a < x ∧ (∀ i, a ≤ i → i < x → f (16 * y + i) = true) ∧ (a = 0 ∨ f (16 * y + a - 1) = false) ∧ out = runsUpto f (16 * y + a)
theorem endOf_eq (f : Nat → Bool) (y a x : Nat) (hax : a ≤ x) (hx : x ≤ 16) (h : ∀ i, a ≤ i → i < x → f (16 * y + i) = true) (he : x = 16 ∨ f (16 * y + x) = false) : endOf f y a = x := by
  obtain ⟨h1, h2, h3, h4⟩ := endOf_facts f y (16 - a) a (by omega) rfl
  rcases Nat.lt_trichotomy (endOf f y a) x with hh | hh | hh
  · have := h (endOf f y a) h1 hh
    rw [h4 (by omega)] at this
    cases this
  · exact hh
  · rcases he with he | he
    · omega
    · have := h3 x hax hh
      rw [he] at this
      cases this
theorem spec_runsOf.ev_l1 (f : Nat → Bool) (y : Nat) (hy : y < 16) (R : List S45) (hR : Ev (fun k => spec_runsOf.l0 k (gl f) (runsUpto f (16 * (y + 1))) ((y + 1 : Nat) : Int)) R) (d : Nat) : ∀ x out fr, x ≤ 17 → 17 - x = d → (x = 17 → fr = -1 ∧ out = runsUpto f (16 * (y + 1))) → (x ≤ 16 → RowAt f y out fr x) →
    Ev (fun k => spec_runsOf.l1 k (gl f) out (y : Int) fr (x : Int)) R := by
  have hwy : wrap64 ((y : Int) + 1) = ((y + 1 : Nat) : Int) := wrapSucc y (by omega)
  induction d with
  | zero =>
    intro x out fr hx hd h17 _
    obtain ⟨_, rfl⟩ := h17 (by omega)
    exact Ev.step (fun k => by simp only [spec_runsOf.l1, hwy]; rfl) (evNeg (by omega) hR)
  | succ d ih =>
    intro x out fr hx hd _ hrow
    have hrow := hrow (by omega)
    have hw : wrap64 ((x : Int) + 1) = ((x + 1 : Nat) : Int) := wrapSucc x (by omega)
    have hlen : ∀ n, (runsUpto f n).length < 5864062014805 ∨ 5864062014805 ≤ n := fun n => by have := runsUpto_length f n; omega
    refine Ev.step (fun k => by simp only [spec_runsOf.l1, hwy]; rfl) (evPos (by omega) ?_)
    -- the pixel there
    obtain ⟨p, hp, hgo⟩ : ∃ p : Bool, (x < 16 ∧ p = f (16 * y + x) ∨ x = 16 ∧ p = false) ∧ (Ev (fun k => spec_runsOf.j2 k (gl f) out (y : Int) fr (x : Int) p) R → Ev (fun k => if (x : Int) < 16 then (if 0 ≤ (wrap64 ((wrap64 ((y : Int) * 16)) + x)) then (if (wrap64 ((wrap64 ((y : Int) * 16)) + x)) < ((gl f).length : Int) then (spec_runsOf.j2 k (gl f) out (y : Int) fr (x : Int) (rdOf false (gl f) (wrap64 ((wrap64 ((y : Int) * 16)) + x)))) else (none)) else (none)) else (spec_runsOf.j2 k (gl f) out (y : Int) fr (x : Int) false)) R) := by
      by_cases h : x < 16
      · have hi : wrap64 ((wrap64 ((y : Int) * 16)) + x) = ((16 * y + x : Nat) : Int) := by rw [wrapIn (x := (y : Int) * 16) (by omega) (by omega), wrapIn (by omega) (by omega)]; omega
        refine ⟨f (16 * y + x), .inl ⟨h, rfl⟩, fun he => ?_⟩
        rw [hi]
        refine evPos (by omega) (evPos (by omega) (evPos (by rw [gl_length]; omega) ?_))
        rw [gl_rd f _ (by omega)]
        exact he
      · exact ⟨false, .inr ⟨by omega, rfl⟩, fun he => evNeg (by omega) he⟩
    refine hgo ?_
    have hnext : RowAt f y (if p = true then out else if fr = -1 then out else out ++ [⟨(y : Int), fr, (x : Int)⟩]) (if p = true then (if fr = -1 then (x : Int) else fr) else -1) (x + 1) ∨ x = 16 := by
      rcases hp with ⟨h16, hp⟩ | ⟨h16, _⟩
      · left
        rcases hrow with ⟨rfl, hprev, rfl⟩ | ⟨a, rfl, ha, hall, hprev, rfl⟩
        · cases hpv : p with
          | true =>
            right
            refine ⟨x, by simp, by omega, fun i h1 h2 => ?_, hprev, by simp⟩
            obtain rfl : i = x := by omega
            rw [← hp, hpv]
          | false =>
            left
            refine ⟨by simp, .inr (by rw [show 16 * y + (x + 1) - 1 = 16 * y + x by omega, ← hp, hpv]), ?_⟩
            rw [if_neg (by simp), if_pos rfl, show 16 * y + (x + 1) = 16 * y + x + 1 by omega, runsUpto_false f _ (by rw [← hp, hpv])]
        · have hne : ¬ ((a : Int) = -1) := by omega
          cases hpv : p with
          | true =>
            right
            refine ⟨a, by simp [hne], by omega, fun i h1 h2 => ?_, hprev, by simp⟩
            rcases Nat.lt_or_ge i x with h3 | h3
            · exact hall i h1 h3
            · obtain rfl : i = x := by omega
              rw [← hp, hpv]
          | false =>
            left
            have hf0 : f (16 * y + x) = false := by rw [← hp, hpv]
            have hend := endOf_eq f y a x (by omega) (by omega) hall (.inr hf0)
            refine ⟨by simp, .inr (by rw [show 16 * y + (x + 1) - 1 = 16 * y + x by omega]; exact hf0), ?_⟩
            have hrun := runsUpto_run f y a (by omega) (hall a (by omega) ha) hprev
            rw [hend] at hrun
            rw [if_neg (by simp), if_neg hne, show 16 * y + (x + 1) = 16 * y + x + 1 by omega, runsUpto_false f _ hf0, hrun]
      · exact .inr h16
    have hlast : x = 16 → (if p = true then (if fr = -1 then (x : Int) else fr) else (-1 : Int)) = -1 ∧ (if p = true then out else if fr = -1 then out else out ++ [⟨(y : Int), fr, (x : Int)⟩]) = runsUpto f (16 * (y + 1)) := by
      intro h16
      have hpf : p = false := by
        rcases hp with ⟨h, _⟩ | ⟨_, h⟩
        · omega
        · exact h
      subst hpf
      refine ⟨by simp, ?_⟩
      rw [if_neg (by simp)]
      rcases hrow with ⟨rfl, hprev, rfl⟩ | ⟨a, rfl, ha, hall, hprev, rfl⟩
      · rw [if_pos rfl, h16]
        rfl
      · rw [if_neg (by omega)]
        have hend := endOf_eq f y a x (by omega) (by omega) hall (.inl h16)
        have hrun := runsUpto_run f y a (by omega) (hall a (by omega) ha) hprev
        rw [hend] at hrun
        rw [← hrun, h16]
        rfl
    have hcont := ih (x + 1) (if p = true then out else if fr = -1 then out else out ++ [⟨(y : Int), fr, (x : Int)⟩]) (if p = true then (if fr = -1 then (x : Int) else fr) else -1) (by omega) (by omega) (fun h => hlast (by omega)) (fun h => by
      rcases hnext with h2 | h2
      · exact h2
      · omega)
    have hfr : fr = -1 ∨ 0 ≤ fr := by
      rcases hrow with ⟨rfl, _⟩ | ⟨a, rfl, _⟩
      · exact .inl rfl
      · exact .inr (by omega)
    have hol : out.length < 5864062014805 := by
      rcases hrow with ⟨_, _, rfl⟩ | ⟨a, _, _, _, _, rfl⟩
      · rcases hlen (16 * y + x) with h | h <;> omega
      · rcases hlen (16 * y + a) with h | h <;> omega
    cases p with
    | true =>
      rw [if_pos rfl, if_pos rfl] at hcont
      refine Ev.step (fun k => by simp only [spec_runsOf.j2]; rfl) ?_
      refine evPos (by trivial) ?_
      refine Ev.step (fun k => by simp only [spec_runsOf.j3, hw]; rfl) ?_
      rcases hfr with rfl | h0
      · rw [if_pos rfl] at hcont
        exact evPos (by simp) (evPos (by trivial) hcont)
      · rw [if_neg (by omega)] at hcont
        exact evNeg (by simp; omega) (evPos (by trivial) hcont)
    | false =>
      simp only [Bool.false_eq_true, if_false] at hcont
      refine Ev.step (fun k => by simp only [spec_runsOf.j2]; rfl) ?_
      refine evNeg (by first | exact not_false | simp) ?_
      refine Ev.step (fun k => by simp only [spec_runsOf.j3, hw]; rfl) ?_
      refine evNeg (by first | exact not_false | simp) ?_
      refine evNeg (by first | exact not_false | simp) ?_
      rcases hfr with rfl | h0
      · rw [if_pos rfl] at hcont
        exact evNeg (by omega) hcont
      · rw [if_neg (by omega)] at hcont
        exact evPos (by omega) (evPos hol hcont)
theorem spec_runsOf.ev_l0 (f : Nat → Bool) (d : Nat) : ∀ y, y ≤ 16 → 16 - y = d → Ev (fun k => spec_runsOf.l0 k (gl f) (runsUpto f (16 * y)) (y : Int)) (runsL f) := by
  induction d with
  | zero =>
    intro y hy hd
    obtain rfl : y = 16 := by omega
    exact Ev.step (fun k => by simp only [spec_runsOf.l0]; rfl) (evNeg (by omega) (evRet rfl))
  | succ d ih =>
    intro y hy hd
    refine Ev.step (fun k => by simp only [spec_runsOf.l0]; rfl) (evPos (by omega) ?_)
    have := spec_runsOf.ev_l1 f y (by omega) (runsL f) (ih (y + 1) (by omega) (by omega)) 17 0 (runsUpto f (16 * y)) (-1) (by omega) rfl (fun h => by omega) (fun _ => .inl ⟨rfl, .inl rfl, rfl⟩)
    exact this
theorem spec_runsOf.ev (f : Nat → Bool) : Ev (fun k => spec_runsOf.f k (gl f)) (runsL f) := spec_runsOf.ev_l0 f 16 0 (by omega) rfl

theorem inRange_val (a lo hi : Int) : spec_inRange.f a lo hi = some (decide (lo ≤ a ∧ a ≤ hi)) := by
  unfold spec_inRange.f
  split
  · rename_i h; simp [h]
  · rename_i h; simp [h]
theorem onGrid_val (a b : Int) : spec_onGrid.f a b = some (decide ((0 ≤ a ∧ a ≤ 15) ∧ (0 ≤ b ∧ b ≤ 15))) := by
  unfold spec_onGrid.f
  rw [inRange_val, inRange_val]
  simp only [Option.bind_some]
  by_cases h : 0 ≤ a ∧ a ≤ 15
  · simp [h]
  · simp [h]
theorem spec_DiscRegion.ev_l0 (x y r : Int) (hk : discOk x y r) (d : Nat) : ∀ p, p ≤ 256 → 256 - p = d →
    Ev (fun k => spec_DiscRegion.l0 k x y r (gl fun j => decide (j < p) && discF x y r j) (p : Int)) (runsL (discF x y r)) := by
  obtain ⟨h1, h2, h3, h4, h5, h6⟩ := hk
  induction d with
  | zero =>
    intro p hp hd
    obtain rfl : p = 256 := by omega
    refine Ev.step (fun k => by simp only [spec_DiscRegion.l0]; rfl) (evNeg (by rw [gl_length]; omega) ?_)
    rw [gl_congr (g := discF x y r) (fun i hi => by rw [decide_eq_true hi, Bool.true_and])]
    exact evBind (spec_runsOf.ev _) (evRet rfl)
  | succ d ih =>
    intro p hp hd
    have hw : wrap64 ((p : Int) + 1) = ((p + 1 : Nat) : Int) := wrapSucc p (by omega)
    have ht : Int.tmod (p : Int) 16 = ((p % 16 : Nat) : Int) := by rw [Int.tmod_eq_emod_of_nonneg (by omega)]; omega
    have hq : Int.tdiv (p : Int) 16 = ((p / 16 : Nat) : Int) := by rw [Int.tdiv_eq_ediv_of_nonneg (by omega)]; omega
    have q1 := sq_bound ((p % 16 : Nat) : Int) x (by omega) (by omega) h1 (by omega)
    have q2 := sq_bound ((p / 16 : Nat) : Int) y (by omega) (by omega) h3 (by omega)
    have q3 := sq_bound r 0 h5 h6 (by omega) (by omega)
    rw [Int.sub_zero] at q3
    have := ih (p + 1) (by omega) (by omega)
    refine Ev.step (f := fun k => spec_DiscRegion.l0 k x y r (gl fun j => decide (j < p + 1) && discF x y r j) ((p + 1 : Nat) : Int)) (fun k => ?_) this
    simp only [spec_DiscRegion.l0, hw, ht, hq]
    rw [if_pos (by rw [gl_length]; omega), if_pos (by omega), wrapIn (x := ((p / 16 : Nat) : Int)) (by omega) (by omega), wrapIn (x := ((p % 16 : Nat) : Int) - x) (by omega) (by omega), wrapIn (x := ((p / 16 : Nat) : Int) - y) (by omega) (by omega)]
    rw [wrapIn (x := (((p % 16 : Nat) : Int) - x) * (((p % 16 : Nat) : Int) - x)) (by omega) (by omega), wrapIn (x := (((p / 16 : Nat) : Int) - y) * (((p / 16 : Nat) : Int) - y)) (by omega) (by omega), wrapIn (x := r * r) (by omega) (by omega)]
    rw [wrapIn (x := (((p % 16 : Nat) : Int) - x) * (((p % 16 : Nat) : Int) - x) + (((p / 16 : Nat) : Int) - y) * (((p / 16 : Nat) : Int) - y)) (by omega) (by omega)]
    rw [Int.toNat_natCast, gl_set]
    congr 1
    refine gl_congr fun i hi => ?_
    by_cases e : i = p
    · subst e
      rw [if_pos rfl, decide_eq_true (show i < i + 1 by omega), Bool.true_and]
      rfl
    · rw [if_neg e]
      congr 1
      exact decide_eq_decide.mpr (by omega)
theorem spec_DiscRegion.ev (x y r : Int) : Ev (fun k => spec_DiscRegion.f k x y r) (if discOk x y r then runsL (discF x y r) else []) := by
  have hno : ¬ discOk x y r → Ev (fun k => spec_DiscRegion.j0 k x y r true) (if discOk x y r then runsL (discF x y r) else []) := fun h => by
    rw [if_neg h]
    exact Ev.step (fun k => by simp only [spec_DiscRegion.j0]; rfl) (evPos (by trivial) (evRet rfl))
  unfold spec_DiscRegion.f
  refine evFix (onGrid_val x y) (evIf (fun h => ?_) (fun h => ?_))
  · rw [decide_eq_true_eq] at h
    refine evFix (inRange_val r 0 16) ?_
    by_cases h2 : 0 ≤ r ∧ r ≤ 16
    · have hk : discOk x y r := ⟨h.1.1, by omega, h.2.1, by omega, h2.1, h2.2⟩
      rw [decide_eq_true h2, if_pos hk]
      refine Ev.step (fun k => by simp only [spec_DiscRegion.j0]; rfl) ?_
      refine evNeg (by simp) (evPos (by omega) ?_)
      rw [gl_false]
      have := spec_DiscRegion.ev_l0 x y r hk 256 0 (by omega) (by omega)
      rw [gl_congr (g := fun _ => false) (fun i hi => by rw [decide_eq_false (by omega)]; rfl)] at this
      exact this
    · rw [decide_eq_false h2]
      exact hno fun hk => h2 ⟨hk.2.2.2.2.1, hk.2.2.2.2.2⟩
  · rw [decide_eq_true_eq] at h
    exact hno fun hk => h ⟨⟨hk.1, by have := hk.2.1; omega⟩, hk.2.2.1, by have := hk.2.2.2.1; omega⟩
theorem runsL_length (f : Nat → Bool) : (runsL f).length ≤ 256 := runsUpto_length f 256

/-! ### The reader of draws -/
/-- A code that a reader reads. -/
def CodeOk (b : List Int) : Prop := b.length ≤ 2000 ∧ ∀ x ∈ b, 0 ≤ x ∧ x ≤ 255
theorem code_rd (b : List Int) (h : CodeOk b) (i : Int) (h0 : 0 ≤ i) (h1 : i < b.length) : 0 ≤ rd b i ∧ rd b i ≤ 255 := by
  obtain ⟨n, rfl⟩ := Int.eq_ofNat_of_zero_le h0
  rw [rdN b n (by omega)]
  exact h.2 _ (List.getElem_mem _)
theorem xor_nonneg (a b : Int) (ha : 0 ≤ a) (ha1 : a < 4611686018427387904) (hb : 0 ≤ b) (hb1 : b < 4611686018427387904) : 0 ≤ Go.bits .xor .i64 a b := by
  obtain ⟨n, rfl⟩ := Int.eq_ofNat_of_zero_le ha
  obtain ⟨m, rfl⟩ := Int.eq_ofNat_of_zero_le hb
  have hx : n ^^^ m < 2 ^ 62 := Nat.xor_lt_two_pow (by omega) (by omega)
  have e : Go.bits .xor .i64 (n : Int) (m : Int) = ((n ^^^ m : Nat) : Int) := by
    have hp : (2 : Nat) ^ IntKind.i64.bits = 18446744073709551616 := by decide
    have ha' : n % 2 ^ IntKind.i64.bits = n := Nat.mod_eq_of_lt (by omega)
    have hb' : m % 2 ^ IntKind.i64.bits = m := Nat.mod_eq_of_lt (by omega)
    simp only [bits, BitVec.ofInt_natCast, BitVec.toNat_xor, BitVec.toNat_ofNat, ha', hb']
    rw [IntKind.wrap_i64]
    omega
  rw [e]
  omega
theorem spec_reader_pick.ev (b : List Int) (h : CodeOk b) (p n : Int) (hp0 : 0 ≤ p) (hp1 : p < 1000000000) (hn : n ≤ 1000000) : ∃ v, Ev (fun k => spec_reader_pick.f k b p n) (v, p + 1) ∧ 0 ≤ v ∧ (v < n ∨ v = 0) := by
  have hw : wrap64 (p + 1) = p + 1 := wrapIn (by omega) (by omega)
  have hw1 : wrap64 (p + 1 - 1) = p := by rw [wrapIn (by omega) (by omega)]; omega
  unfold spec_reader_pick.f
  rw [hw]
  by_cases hn1 : n < 1
  · refine ⟨0, evPos hn1 (Ev.step (fun k => by simp only [spec_reader_pick.j0]; rfl) (evPos (by trivial) (evRet rfl))), by omega, .inr rfl⟩
  by_cases hb : (b.length : Int) = 0
  · refine ⟨0, evNeg hn1 (Ev.step (fun k => by simp only [spec_reader_pick.j0]; rfl) (evPos (by simp [hb]) (evRet rfl))), by omega, .inr rfl⟩
  have hbf : ((b.length : Int) == 0) = false := by simpa using hb
  have hl := h.1
  by_cases hlt : p < (b.length : Int)
  · have hr := code_rd b h p hp0 hlt
    refine ⟨Int.tmod (wrap64 (rd b p)) n, evNeg hn1 (Ev.step (fun k => by simp only [spec_reader_pick.j0, hbf, hw1]; rfl) (evNeg (by simp) (evPos hlt (evPos hp0 (evNeg (by omega) (evRet rfl)))))), ?_, .inl ?_⟩
    · exact Int.tmod_nonneg _ (by rw [wrapIn (by omega) (by omega)]; omega)
    · exact Int.tmod_lt_of_pos _ (by omega)
  · have hm0 : 0 ≤ Int.tmod p (b.length : Int) := Int.tmod_nonneg _ hp0
    have hm1 : Int.tmod p (b.length : Int) < b.length := Int.tmod_lt_of_pos _ (by omega)
    have hq : wrap64 (wrap64 (p * 7) + 3) = p * 7 + 3 := by rw [wrapIn (x := p * 7) (by omega) (by omega), wrapIn (by omega) (by omega)]
    have hk0 : 0 ≤ Int.tmod (p * 7 + 3) (b.length : Int) := Int.tmod_nonneg _ (by omega)
    have hk1 : Int.tmod (p * 7 + 3) (b.length : Int) < b.length := Int.tmod_lt_of_pos _ (by omega)
    have r1 := code_rd b h _ hm0 hm1
    have r2 := code_rd b h _ hk0 hk1
    have hd0 : 0 ≤ Int.tdiv p (b.length : Int) := Int.tdiv_nonneg hp0 (by omega)
    have hd1 : Int.tdiv p (b.length : Int) ≤ p := by
      have := Int.natAbs_tdiv_le_natAbs p (b.length : Int)
      omega
    refine ⟨_, evNeg hn1 (Ev.step (fun k => by simp only [spec_reader_pick.j0, hbf, hw1, hq]; rfl) (evNeg (by simp) (evNeg hlt (evNeg hb (evPos hm0 (evPos hm1 (evPos hk0 (evPos hk1 (evNeg (by omega) (evRet rfl)))))))))), ?_, .inl (Int.tmod_lt_of_pos _ (by omega))⟩
    generalize rd b (Int.tmod p (b.length : Int)) = u at *
    generalize rd b (Int.tmod (p * 7 + 3) (b.length : Int)) = t at *
    generalize Int.tdiv p (b.length : Int) = q at *
    rw [wrapIn (x := u) (by omega) (by omega), wrapIn (x := t) (by omega) (by omega), wrapIn (x := q) (by omega) (by omega), wrapIn (x := u * 131) (by omega) (by omega), wrapIn (x := t * 1117) (by omega) (by omega), wrapIn (x := u * 131 + t * 1117) (by omega) (by omega), wrapIn (x := p * 29) (by omega) (by omega), wrapIn (x := u * 131 + t * 1117 + p * 29) (by omega) (by omega), wrapIn (x := q * 53) (by omega) (by omega), wrapIn (x := u * 131 + t * 1117 + p * 29 + q * 53) (by omega) (by omega)]
    generalize hX : u * 131 + t * 1117 + p * 29 + q * 53 = X
    have hX0 : 0 ≤ X := by omega
    have hX1 : X < 4611686018427387904 := by omega
    have hT0 : 0 ≤ Int.tdiv X 64 := Int.tdiv_nonneg hX0 (by omega)
    have hT1 : Int.tdiv X 64 ≤ X := by
      have := Int.natAbs_tdiv_le_natAbs X 64
      omega
    rw [wrapIn (x := Int.tdiv X 64) (by omega) (by omega)]
    exact Int.tmod_nonneg _ (xor_nonneg _ _ hX0 hX1 hT0 (by omega))
theorem spec_newReader.ev (l : List Int) (hw : ∀ x ∈ l, (Lit.int .u8 x).wf = true) : ∃ b, spec_newReader.f l = some (b, 0) ∧ CodeOk b := by
  have hx : ∀ x ∈ l, 0 ≤ x ∧ x ≤ 255 := fun x hx => by
    have := hw x hx
    have hmin : IntKind.u8.min = 0 := rfl
    have hmax : IntKind.u8.max = 255 := rfl
    simp only [Lit.wf, Bool.and_eq_true, decide_eq_true_eq] at this
    omega
  unfold spec_newReader.f
  by_cases h : (l.length : Int) > 2000
  · rw [if_pos h, if_pos (by omega)]
    exact ⟨_, rfl, by simp; omega, fun x h2 => hx x (List.mem_of_mem_take h2)⟩
  · rw [if_neg h]
    exact ⟨_, rfl, by omega, hx⟩

theorem floor_of_tmod (a b : Int) (hb : 0 < b) : (if Int.tmod a b < 0 then Int.tdiv a b - 1 else Int.tdiv a b) = a / b := by
  rw [← floor_of_tdiv a b hb]
  have h1 := Int.mul_tdiv_add_tmod a b
  rw [Int.mul_comm] at h1
  by_cases h : Int.tmod a b < 0
  · rw [if_pos h, if_pos (by omega)]
  · rw [if_neg h, if_neg (by omega)]
theorem spec_floorDiv.val (a b : Int) (hb : 0 < b) (ha0 : -1000000 ≤ a) (ha1 : a ≤ 1000000) : spec_floorDiv.f a b = some (a / b) := by
  have h1 := Int.natAbs_tdiv_le_natAbs a b
  have hf := floor_of_tmod a b hb
  unfold spec_floorDiv.f
  rw [if_neg (by omega), ← hf]
  generalize Int.tdiv a b = q at *
  have e1 : wrap64 q = q := wrapIn (by omega) (by omega)
  have e2 : wrap64 (q - 1) = q - 1 := wrapIn (by omega) (by omega)
  rw [e1, e2]
  split <;> rfl
theorem spec_distance.val (a : Int) (h0 : -1000 ≤ a) (h1 : a ≤ 1000) : spec_distance.f a = some (absI a) := by
  unfold spec_distance.f absI
  have e : wrap64 (-a) = -a := wrapIn (by omega) (by omega)
  rw [e]
  split <;> rfl
theorem line_q (i n : Nat) (d : Int) (hn : n ≤ 15) (hi : i ≤ n) (h2 : -15 ≤ d) (h3 : d ≤ 15) (hp : 0 < n) :
    spec_floorDiv.f (wrap64 ((wrap64 ((wrap64 (2 * (i : Int))) * d)) + (n : Int))) (wrap64 (2 * (n : Int))) = some ((2 * ((i : Int) * d) + n) / (2 * n)) := by
  have hm := mul_bound_ (i : Int) d (by omega) (by omega) h2 h3
  rw [wrapIn (x := 2 * (i : Int)) (by omega) (by omega), Int.mul_assoc, wrapIn (x := 2 * ((i : Int) * d)) (by omega) (by omega), wrapIn (x := 2 * ((i : Int) * d) + n) (by omega) (by omega), wrapIn (x := 2 * (n : Int)) (by omega) (by omega)]
  exact spec_floorDiv.val _ _ (by omega) (by omega) (by omega)
theorem line_idx (X Y : Nat) (hX : X < 16) (hY : Y < 16) (x y : Int) (hx : x = X) (hy : y = Y) : wrap64 ((wrap64 (y * 16)) + x) = ((16 * Y + X : Nat) : Int) := by
  subst hx hy
  unfold wrap64
  omega
theorem spec_line.ev_l0 (x0 y0 x1 y1 : Int) (hk : lineOk x0 y0 x1 y1) (n : Nat) (hn : lineN x0 y0 x1 y1 = n) (d : Nat) : ∀ i, i ≤ n + 1 → n + 1 - i = d →
    Ev (fun k => spec_line.l0 k (gl (lineUpto x0 y0 x1 y1 i)) x0 y0 x1 y1 (n : Int) (i : Int)) (gl (lineF x0 y0 x1 y1)) := by
  obtain ⟨⟨p0, p1⟩, ⟨p2, p3⟩, ⟨p4, p5⟩, ⟨p6, p7⟩⟩ := hk
  obtain ⟨q1, q2, q3⟩ := lineN_facts x0 y0 x1 y1
  rw [hn] at q1 q2 q3
  have b1 := absI_bounds x0 x1 p0 p1 p4 p5
  have b2 := absI_bounds y0 y1 p2 p3 p6 p7
  have hn15 : n ≤ 15 := by omega
  induction d with
  | zero =>
    intro i hi hd
    obtain rfl : i = n + 1 := by omega
    refine Ev.step (fun k => by simp only [spec_line.l0]; rfl) (evNeg (by omega) (evRet ?_))
    refine gl_congr fun p _ => ?_
    unfold lineF
    rw [hn]
    rfl
  | succ d ih =>
    intro i hi hd
    have hnext := ih (i + 1) (by omega) (by omega)
    have hset : ∀ P : Nat, P = linePix x0 y0 x1 y1 i → (gl (lineUpto x0 y0 x1 y1 i)).set P true = gl (lineUpto x0 y0 x1 y1 (i + 1)) := fun P hP => by
      rw [gl_set]
      refine gl_congr fun p _ => ?_
      rw [lineUpto_succ, ← hP]
      by_cases e : p = P
      · rw [if_pos e, decide_eq_true e, Bool.or_true]
      · rw [if_neg e, decide_eq_false e, Bool.or_false]
    by_cases hz : 0 < n
    · have r1 := lineAt_bounds x0 x1 n i p0 p1 p4 p5 (by omega) (by omega) q1
      have r2 := lineAt_bounds y0 y1 n i p2 p3 p6 p7 (by omega) (by omega) q2
      obtain ⟨X, hX⟩ := Int.eq_ofNat_of_zero_le r1.1
      obtain ⟨Y, hY⟩ := Int.eq_ofNat_of_zero_le r2.1
      have hP : 16 * Y + X = linePix x0 y0 x1 y1 i := by
        unfold linePix
        rw [hn, hX, hY]
        rfl
      have wx : wrap64 (x1 - x0) = x1 - x0 := wrapIn (by omega) (by omega)
      have wy : wrap64 (y1 - y0) = y1 - y0 := wrapIn (by omega) (by omega)
      have e1 := line_q i n (x1 - x0) hn15 (by omega) (by omega) (by omega) hz
      have e2 := line_q i n (y1 - y0) hn15 (by omega) (by omega) (by omega) hz
      have hx : x0 + (2 * ((i : Int) * (x1 - x0)) + n) / (2 * n) = X := hX
      have hy : y0 + (2 * ((i : Int) * (y1 - y0)) + n) / (2 * n) = Y := hY
      rw [hX] at r1
      rw [hY] at r2
      have hidx : wrap64 ((wrap64 ((wrap64 (y0 + (2 * ((i : Int) * (y1 - y0)) + n) / (2 * n))) * 16)) + (wrap64 (x0 + (2 * ((i : Int) * (x1 - x0)) + n) / (2 * n)))) = ((16 * Y + X : Nat) : Int) := by
        rw [hx, hy, wrapNat X (by omega), wrapNat Y (by omega)]
        exact line_idx X Y (by omega) (by omega) _ _ rfl rfl
      refine Ev.step (fun k => by simp only [spec_line.l0, wx, wy]; rfl) ?_
      clear wx wy
      refine evPos (by omega) (evPos (by omega) (evFix e1 (evFix e2 ?_)))
      simp only [hidx]
      clear hidx
      refine evPos (by omega) (evPos (by rw [gl_length]; omega) ?_)
      rw [Int.toNat_natCast, hset _ hP, wrapSucc i (by omega)]
      exact hnext
    · obtain rfl : n = 0 := by omega
      obtain rfl : i = 0 := by omega
      obtain ⟨X, rfl⟩ := Int.eq_ofNat_of_zero_le p0
      obtain ⟨Y, rfl⟩ := Int.eq_ofNat_of_zero_le p2
      have hP : 16 * Y + X = linePix X Y x1 y1 0 := by
        unfold linePix
        rw [hn, lineAt_zero _ _ _ (by omega), lineAt_zero _ _ _ (by omega)]
        rfl
      refine Ev.step (fun k => by simp only [spec_line.l0]; rfl) ?_
      refine evPos (by omega) (evNeg (by omega) ?_)
      rw [line_idx X Y (by omega) (by omega) _ _ rfl rfl]
      refine evPos (by omega) (evPos (by rw [gl_length]; omega) ?_)
      rw [Int.toNat_natCast, hset _ hP, wrapSucc 0 (by omega)]
      exact hnext
theorem spec_LineRegion.ev (x0 y0 x1 y1 : Int) : Ev (fun k => spec_LineRegion.f k x0 y0 x1 y1) (if lineOk x0 y0 x1 y1 then runsL (lineF x0 y0 x1 y1) else []) := by
  have hno : ¬ lineOk x0 y0 x1 y1 → Ev (fun k => spec_LineRegion.j0 k x0 y0 x1 y1 true) (if lineOk x0 y0 x1 y1 then runsL (lineF x0 y0 x1 y1) else []) := fun h => by
    rw [if_neg h]
    exact Ev.step (fun k => by simp only [spec_LineRegion.j0]; rfl) (evPos (by trivial) (evRet rfl))
  unfold spec_LineRegion.f
  refine evFix (onGrid_val x0 y0) (evIf (fun h => ?_) (fun h => ?_))
  · rw [decide_eq_true_eq] at h
    refine evFix (onGrid_val x1 y1) ?_
    by_cases h2 : (0 ≤ x1 ∧ x1 ≤ 15) ∧ (0 ≤ y1 ∧ y1 ≤ 15)
    · have hk : lineOk x0 y0 x1 y1 := ⟨by omega, by omega, by omega, by omega⟩
      rw [decide_eq_true h2, if_pos hk]
      have b1 := absI_bounds x0 x1 hk.1.1 hk.1.2 hk.2.2.1.1 hk.2.2.1.2
      have b2 := absI_bounds y0 y1 hk.2.1.1 hk.2.1.2 hk.2.2.2.1 hk.2.2.2.2
      obtain ⟨q1, q2, q3⟩ := lineN_facts x0 y0 x1 y1
      obtain ⟨n, hn⟩ := Int.eq_ofNat_of_zero_le (show 0 ≤ lineN x0 y0 x1 y1 by omega)
      have e1 : spec_distance.f (wrap64 (x1 - x0)) = some (absI (x1 - x0)) := by
        rw [wrapIn (x := x1 - x0) (by omega) (by omega)]
        exact spec_distance.val _ (by omega) (by omega)
      have e2 : spec_distance.f (wrap64 (y1 - y0)) = some (absI (y1 - y0)) := by
        rw [wrapIn (x := y1 - y0) (by omega) (by omega)]
        exact spec_distance.val _ (by omega) (by omega)
      have hl : Ev (fun k => spec_line.f k (List.replicate 256 false) x0 y0 x1 y1) (gl (lineF x0 y0 x1 y1)) := by
        unfold spec_line.f
        refine evFix e1 (evFix e2 ?_)
        rw [show mx (absI (x1 - x0)) (absI (y1 - y0)) = (n : Int) from hn, gl_false]
        exact spec_line.ev_l0 x0 y0 x1 y1 hk n hn (n + 1) 0 (by omega) rfl
      refine Ev.step (fun k => by simp only [spec_LineRegion.j0]; rfl) ?_
      refine evNeg (by simp) (evPos (by omega) (evBind hl (evBind (spec_runsOf.ev _) (evRet rfl))))
    · rw [decide_eq_false h2]
      exact hno fun hk => h2 (by have := hk.1; have := hk.2.1; have := hk.2.2.1; have := hk.2.2.2; omega)
  · rw [decide_eq_true_eq] at h
    exact hno fun hk => h (by have := hk.1; have := hk.2.1; have := hk.2.2.1; have := hk.2.2.2; omega)
theorem spec_LineRegion.len (x0 y0 x1 y1 : Int) : (if lineOk x0 y0 x1 y1 then runsL (lineF x0 y0 x1 y1) else []).length ≤ 256 := by
  split
  · exact runsL_length _
  · simp
theorem spec_DrawLineRegion.ev (l : List Int) (hw : ∀ x ∈ l, (Lit.int .u8 x).wf = true) : ∃ a b c d, Ev (fun k => spec_DrawLineRegion.f k l) (a, b, c, d) := by
  obtain ⟨s, hb, h⟩ := spec_newReader.ev l hw
  obtain ⟨u, hu, u0, u1⟩ := spec_reader_pick.ev s h 0 17 (by omega) (by omega) (by omega)
  obtain ⟨v, hv, v0, v1⟩ := spec_reader_pick.ev s h (0 + 1) 17 (by omega) (by omega) (by omega)
  obtain ⟨t, ht, t0, t1⟩ := spec_reader_pick.ev s h (0 + 1 + 1) 17 (by omega) (by omega) (by omega)
  obtain ⟨q, hq, _, _⟩ := spec_reader_pick.ev s h (0 + 1 + 1 + 1) 20 (by omega) (by omega) (by omega)
  obtain ⟨r, hr, _, _⟩ := spec_reader_pick.ev s h (0 + 1 + 1 + 1 + 1) 17 (by omega) (by omega) (by omega)
  by_cases e : q = 0
  · exact ⟨-1, v, t, r, by unfold spec_DrawLineRegion.f; exact evFix hb (evBind hu (evBind hv (evBind ht (evBind hq (evPos e (evBind hr (evRet rfl)))))))⟩
  · exact ⟨u, v, t, r, by unfold spec_DrawLineRegion.f; exact evFix hb (evBind hu (evBind hv (evBind ht (evBind hq (evNeg e (evBind hr (evRet rfl)))))))⟩

theorem laws_absolute.val (a : Int) (h0 : -1000 ≤ a) (h1 : a ≤ 1000) : laws_absolute.f a = some (absI a) := by
  unfold laws_absolute.f absI
  have e : wrap64 (-a) = -a := wrapIn (by omega) (by omega)
  rw [e]
  split <;> rfl
theorem lineAt_between (a b n : Int) (j : Nat) (hn : 0 ≤ n) (hj : (j : Int) ≤ n) (hd : absI (b - a) ≤ n) : mn a b ≤ lineAt a (b - a) n j ∧ lineAt a (b - a) n j ≤ mx a b := by
  rcases Int.lt_or_eq_of_le hn with h | h
  · have hb : -n ≤ b - a ∧ b - a ≤ n := by unfold absI at hd; split at hd <;> omega
    have hq := lineQ_bounds (b - a) n j h hj hb.1 hb.2
    unfold lineAt mn mx
    rcases Int.le_total 0 (b - a) with h0 | h0
    · have := hq.1 h0
      split <;> split <;> omega
    · have := hq.2 h0
      split <;> split <;> omega
  · subst h
    have : b - a = 0 := by unfold absI at hd; split at hd <;> omega
    obtain rfl : j = 0 := by omega
    rw [lineAt_zero _ _ _ (by omega)]
    unfold mn mx
    split <;> split <;> omega
theorem box_of_line (a b c d : Nat) (ha : a < 16) (hb : b < 16) (hc : c < 16) (hd : d < 16) :
    runsL (lineF a b c d) ≠ [] ∧ leftL 16 (runsL (lineF a b c d)) = mn a c ∧ rightL 0 (runsL (lineF a b c d)) = mx (a : Int) c + 1 ∧ topL (runsL (lineF a b c d)) = mn b d ∧ lowL (runsL (lineF a b c d)) = mx (b : Int) d := by
  have hk : lineOk a b c d := ⟨by omega, by omega, by omega, by omega⟩
  obtain ⟨n, hn, hn15⟩ := lineN_nat a b c d hk
  have hp0 := (lineF_iff a b c d n hn _).2 ⟨0, by omega, (line_first a b c d hk).symm⟩
  have hp1 := (lineF_iff a b c d n hn _).2 ⟨n, by omega, (line_last a b c d hk n hn).symm⟩
  rw [show (16 * (b : Int).toNat + (a : Int).toNat) = 16 * b + a from rfl] at hp0
  rw [show (16 * (d : Int).toNat + (c : Int).toNat) = 16 * d + c from rfl] at hp1
  obtain ⟨q1, q2, q3⟩ := lineN_facts a b c d
  rw [hn] at q1 q2
  obtain ⟨A, hA, A1, A2, A3⟩ : ∃ A : Nat, mn (a : Int) c = A ∧ A ≤ a ∧ A ≤ c ∧ (A = a ∨ A = c) := by
    obtain ⟨m1, m2, m3⟩ := mn_le (a : Int) c
    rcases m3 with h | h
    · exact ⟨a, h, by omega, by omega, .inl rfl⟩
    · exact ⟨c, h, by omega, by omega, .inr rfl⟩
  obtain ⟨B, hB, B1, B2, B3⟩ : ∃ A : Nat, mn (b : Int) d = A ∧ A ≤ b ∧ A ≤ d ∧ (A = b ∨ A = d) := by
    obtain ⟨m1, m2, m3⟩ := mn_le (b : Int) d
    rcases m3 with h | h
    · exact ⟨b, h, by omega, by omega, .inl rfl⟩
    · exact ⟨d, h, by omega, by omega, .inr rfl⟩
  obtain ⟨C, hC, C1, C2, C3⟩ : ∃ A : Nat, mx (a : Int) c = A ∧ a ≤ A ∧ c ≤ A ∧ (A = a ∨ A = c) := by
    obtain ⟨m1, m2, m3⟩ := mx_ge (a : Int) c
    rcases m3 with h | h
    · exact ⟨a, h, by omega, by omega, .inl rfl⟩
    · exact ⟨c, h, by omega, by omega, .inr rfl⟩
  obtain ⟨D, hD, D1, D2, D3⟩ : ∃ A : Nat, mx (b : Int) d = A ∧ b ≤ A ∧ d ≤ A ∧ (A = b ∨ A = d) := by
    obtain ⟨m1, m2, m3⟩ := mx_ge (b : Int) d
    rcases m3 with h | h
    · exact ⟨b, h, by omega, by omega, .inl rfl⟩
    · exact ⟨d, h, by omega, by omega, .inr rfl⟩
  rw [hA, hB, hC, hD]
  refine bounds_eq _ A C B D (fun i hi h => ?_) ?_ ?_ ?_ ?_
  · obtain ⟨j, hj, he⟩ := (lineF_iff a b c d n hn _).1 h
    obtain ⟨X, Y, hX, hY, eX, eY, e⟩ := line_pix a b c d hk n hn j hj
    have u1 := lineAt_between a c n j (by omega) (by omega) q1
    have u2 := lineAt_between b d n j (by omega) (by omega) q2
    rw [hA, hC, eX] at u1
    rw [hB, hD, eY] at u2
    omega
  · rcases A3 with h | h
    · exact ⟨_, by omega, hp0, by omega⟩
    · exact ⟨_, by omega, hp1, by omega⟩
  · rcases C3 with h | h
    · exact ⟨_, by omega, hp0, by omega⟩
    · exact ⟨_, by omega, hp1, by omega⟩
  · rcases B3 with h | h
    · exact ⟨_, by omega, hp0, by omega⟩
    · exact ⟨_, by omega, hp1, by omega⟩
  · rcases D3 with h | h
    · exact ⟨_, by omega, hp0, by omega⟩
    · exact ⟨_, by omega, hp1, by omega⟩
theorem FnLineRegionBox : laws_FnLineRegionBox.Pure := by
  intro l _ _ hw
  refine Ev.rounds ?_
  obtain ⟨a, b, c, d, hr⟩ := spec_DrawLineRegion.ev l hw
  have hs := spec_LineRegion.ev a b c d
  have hlen := spec_LineRegion.len a b c d
  have heq := laws_equalRuns.refl _ (show (if lineOk a b c d then runsL (lineF a b c d) else []).length ≤ 9223372036854775806 by omega)
  have hi : impl_LineRegion.f a b c d = some (if lineOk a b c d then runsL (lineF a b c d) else []) := rfl
  have hj : ∀ e, (e = false → lineOk a b c d) → Ev (fun k => laws_FnLineRegionBox.j0 k a b c d (if lineOk a b c d then runsL (lineF a b c d) else []) e) true := by
    intro e hc
    refine Ev.step (fun k => by simp only [laws_FnLineRegionBox.j0]; rfl) ?_
    refine evIf (fun _ => evBind hs (evBind heq (evRet rfl))) (fun h => ?_)
    have hk := hc (by simpa using h)
    clear hc heq hs hi hlen hr hw
    rw [if_pos hk]
    obtain ⟨⟨p0, p1⟩, ⟨p2, p3⟩, ⟨p4, p5⟩, ⟨p6, p7⟩⟩ := hk
    obtain ⟨a, rfl⟩ := Int.eq_ofNat_of_zero_le p0
    obtain ⟨b, rfl⟩ := Int.eq_ofNat_of_zero_le p2
    obtain ⟨c, rfl⟩ := Int.eq_ofNat_of_zero_le p4
    obtain ⟨d, rfl⟩ := Int.eq_ofNat_of_zero_le p6
    obtain ⟨g1, g2, g3, g4, g5⟩ := box_of_line a b c d (by omega) (by omega) (by omega) (by omega)
    have hb := impl_BoundsOf.ev (runsL (lineF a b c d)) (by have := runsL_length (lineF a b c d); omega)
    rw [if_pos ⟨runsL_valid _, g1⟩] at hb
    unfold boundsR at hb
    simp only [g2, g3, g4, g5] at hb
    have f1 : laws_absolute.f (wrap64 ((c : Int) - a)) = some (absI ((c : Int) - a)) := by
      rw [wrapIn (x := (c : Int) - a) (by omega) (by omega)]
      exact laws_absolute.val _ (by omega) (by omega)
    have f2 : laws_absolute.f (wrap64 ((d : Int) - b)) = some (absI ((d : Int) - b)) := by
      rw [wrapIn (x := (d : Int) - b) (by omega) (by omega)]
      exact laws_absolute.val _ (by omega) (by omega)
    refine evBind hb (evPos rfl (evFix f1 (evFix f2 (evRet ?_))))
    have u1 : mx (a : Int) c + 1 - mn a c = wrap64 (absI ((c : Int) - a) + 1) := by
      have := absI_bounds a c (by omega) (by omega) (by omega) (by omega)
      rw [wrapIn (by omega) (by omega)]
      unfold mx mn absI
      split <;> split <;> split <;> omega
    have u2 : mx (b : Int) d - mn b d + 1 = wrap64 (absI ((d : Int) - b) + 1) := by
      have := absI_bounds b d (by omega) (by omega) (by omega) (by omega)
      rw [wrapIn (by omega) (by omega)]
      unfold mx mn absI
      split <;> split <;> split <;> omega
    simp only [u1, u2]
    simp
  unfold laws_FnLineRegionBox.f
  refine evIf (fun _ => evRet rfl) (fun _ => evBind hr (evFix hi (evBind hs (evBind heq (evPos rfl (hj _ ?_))))))
  intro h
  refine Decidable.byContradiction fun hn => ?_
  rw [if_neg hn] at h
  simp at h

end Go.Proofs.Ytifjkllkbciliaa.Pure
