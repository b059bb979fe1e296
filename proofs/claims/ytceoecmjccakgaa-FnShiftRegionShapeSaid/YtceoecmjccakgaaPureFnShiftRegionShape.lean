/- FnShiftRegionShape answers true for every code: a region that stays on the grid has as many parts behind a shift. No condition. -/
import Derived.Test.YtceoecmjccakgaaPrintHimplPartsOf
import Derived.Test.YtceoecmjccakgaaPrintHimplShiftRegion
import Derived.Test.YtceoecmjccakgaaPrintHx0
import Derived.Test.YtceoecmjccakgaaPrintHx2
import Derived.Test.YtceoecmjccakgaaPrintLFnShiftRegionShape
import Derived.Test.YtceoecmjccakgaaPrintR0x0
import Derived.Test.YtceoecmjccakgaaPrintR1x0
import Derived.Test.YtceoecmjccakgaaPrintR1x1
import Derived.Test.YtceoecmjccakgaaPrintR1x3
import Derived.Test.YtceoecmjccakgaaPrintR1x4
import Derived.Test.YtceoecmjccakgaaPrintR1x5
import Derived.Test.YtceoecmjccakgaaPrintR1x8
namespace Go.Proofs.Ytceoecmjccakgaa.Pure
open Go.RowKit Go.Proofs.Ytceoecmjccakgaa.Print Go.Proofs.YtceoecmjccakgaaW.PrintWords Go.Proofs.YtceoecmjccakgaaW.PrintLast Go.Proofs.YtceoecmjccakgaaW.PrintMore
set_option linter.unusedVariables false
set_option linter.unusedSimpArgs false
theorem rdN (l : List Int) (k : Nat) (h : k < l.length) : rd l (k : Int) = l[k] := by
  simp [rd, List.getD_eq_getElem?_getD, List.getElem?_eq_getElem h]
theorem drop_cons_ {α : Type} (l : List α) (k : Nat) (h : k < l.length) : l.drop k = l[k] :: l.drop (k + 1) := List.drop_eq_getElem_cons h
theorem take_snocN {α : Type} (l : List α) (k : Nat) (h : k < l.length) : l.take (k + 1) = l.take k ++ [l[k]] := by
  rw [List.take_succ_eq_append_getElem h]
theorem start_of (f : Nat → Bool) (y : Nat) (c : Nat) (hc : c < 16) (hf : f (16 * y + c) = true) : ∃ a, a ≤ c ∧ startB f (16 * y + a) = true ∧ ∀ i, a ≤ i → i ≤ c → f (16 * y + i) = true := by
  induction c with
  | zero =>
    refine ⟨0, Nat.le_refl _, ?_, fun i _ h => ?_⟩
    · unfold startB
      rw [hf, decide_eq_true (show (16 * y + 0) % 16 = 0 by omega)]
      rfl
    · obtain rfl : i = 0 := by omega
      exact hf
  | succ c ih =>
    cases hp : f (16 * y + c) with
    | true =>
      obtain ⟨a, h1, h2, h3⟩ := ih (by omega) hp
      refine ⟨a, by omega, h2, fun i h4 h5 => ?_⟩
      rcases Nat.lt_or_ge c i with h | h
      · obtain rfl : i = c + 1 := by omega
        exact hf
      · exact h3 i h4 h
    | false =>
      refine ⟨c + 1, Nat.le_refl _, ?_, fun i h4 h5 => ?_⟩
      · unfold startB
        rw [hf, show 16 * y + (c + 1) - 1 = 16 * y + c by omega, hp]
        simp
      · obtain rfl : i = c + 1 := by omega
        exact hf
theorem mem_runsL (f : Nat → Bool) (r : S45) : r ∈ runsL f ↔ ∃ s, s < 256 ∧ startB f s = true ∧ r = ⟨(s / 16 : Nat), (s % 16 : Nat), (endOf f (s / 16) (s % 16) : Nat)⟩ := by
  unfold runsL runsUpto
  rw [List.mem_filterMap]
  constructor
  · rintro ⟨s, hs, h⟩
    unfold runAt at h
    split at h
    · rename_i hst
      exact ⟨s, by simpa using hs, hst, (Option.some.inj h).symm⟩
    · cases h
  · rintro ⟨s, hs, hst, rfl⟩
    exact ⟨s, by simpa using hs, by unfold runAt; rw [if_pos hst]⟩
theorem start_true {f : Nat → Bool} {s : Nat} (h : startB f s = true) : f s = true ∧ (s % 16 = 0 ∨ f (s - 1) = false) := by
  unfold startB at h
  simp only [Bool.and_eq_true, Bool.or_eq_true, decide_eq_true_eq, Bool.not_eq_true'] at h
  exact h
theorem gridF_runsL (f : Nat → Bool) (i : Nat) (hi : i < 256) : gridF (runsL f) i = f i := by
  rw [Bool.eq_iff_iff]
  unfold gridF
  rw [List.any_eq_true]
  constructor
  · rintro ⟨r, hr, hin⟩
    obtain ⟨s, hs, hst, rfl⟩ := (mem_runsL f r).1 hr
    unfold inRun at hin
    simp only [Bool.and_eq_true, decide_eq_true_eq] at hin
    obtain ⟨⟨h1, h2⟩, h3⟩ := hin
    have := (endOf_facts f (s / 16) (16 - s % 16) (s % 16) (by omega) rfl).2.2.1 (i % 16) (by omega) (by omega)
    rwa [show 16 * (s / 16) + i % 16 = i by omega] at this
  · intro hf
    obtain ⟨a, h1, h2, h3⟩ := start_of f (i / 16) (i % 16) (by omega) (by rwa [show 16 * (i / 16) + i % 16 = i by omega])
    refine ⟨⟨((16 * (i / 16) + a) / 16 : Nat), ((16 * (i / 16) + a) % 16 : Nat), (endOf f ((16 * (i / 16) + a) / 16) ((16 * (i / 16) + a) % 16) : Nat)⟩, (mem_runsL f _).2 ⟨_, by omega, h2, rfl⟩, ?_⟩
    have e1 : (16 * (i / 16) + a) / 16 = i / 16 := by omega
    have e2 : (16 * (i / 16) + a) % 16 = a := by omega
    rw [e1, e2]
    have hlt : i % 16 < endOf f (i / 16) a := by
      obtain ⟨g1, g2, g3, g4⟩ := endOf_facts f (i / 16) (16 - a) a (by omega) rfl
      rcases Nat.lt_or_ge (i % 16) (endOf f (i / 16) a) with h | h
      · exact h
      · have := h3 (endOf f (i / 16) a) g1 h
        rw [g4 (by omega)] at this
        cases this
    unfold inRun
    simp only [Bool.and_eq_true, decide_eq_true_eq]
    exact ⟨⟨by trivial, by omega⟩, by omega⟩
theorem runsL_valid (f : Nat → Bool) : Valid (runsL f) := by
  constructor
  · intro r hr
    obtain ⟨s, hs, hst, rfl⟩ := (mem_runsL f r).1 hr
    have h := start_true hst
    have hgt := endOf_gt f (s / 16) (s % 16) (by omega) (by rw [show 16 * (s / 16) + s % 16 = s by omega]; exact h.1)
    have hle := (endOf_facts f (s / 16) (16 - s % 16) (s % 16) (by omega) rfl).2.1
    unfold okRun
    simp only []
    omega
  · unfold runsL runsUpto
    rw [List.pairwise_filterMap]
    refine List.Pairwise.imp ?_ List.pairwise_lt_range
    intro s t hlt a ha b hb
    unfold runAt at ha hb
    split at ha
    · split at hb
      · rename_i hs ht
        obtain rfl := Option.some.inj ha
        obtain rfl := Option.some.inj hb
        unfold before
        simp only []
        by_cases hrow : s / 16 = t / 16
        · right
          refine ⟨by omega, ?_⟩
          have h1 := start_true ht
          have h2 := h1.2
          rcases h2 with h2 | h2
          · omega
          · obtain ⟨g1, g2, g3, g4⟩ := endOf_facts f (s / 16) (16 - s % 16) (s % 16) (by omega) rfl
            rcases Nat.lt_or_ge (endOf f (s / 16) (s % 16)) (t % 16) with h3 | h3
            · omega
            · have := g3 (t % 16 - 1) (by omega) (by omega)
              rw [show 16 * (s / 16) + (t % 16 - 1) = t - 1 by omega, h2] at this
              cases this
        · left
          omega
      · cases hb
    · cases ha
theorem inRun_iff (r : S45) (i : Nat) : inRun r i = true ↔ r.f0 = (i / 16 : Nat) ∧ r.f1 ≤ (i % 16 : Nat) ∧ ((i % 16 : Nat) : Int) < r.f2 := by
  unfold inRun
  simp only [Bool.and_eq_true, decide_eq_true_eq]
  exact ⟨fun h => ⟨h.1.1, h.1.2, h.2⟩, fun h => ⟨⟨h.1, h.2.1⟩, h.2.2⟩⟩
theorem gridF_cons (r : S45) (t : List S45) (i : Nat) : gridF (r :: t) i = (inRun r i || gridF t i) := by simp [gridF]
theorem gridF_iff (l : List S45) (i : Nat) : gridF l i = true ↔ ∃ r ∈ l, inRun r i = true := by
  unfold gridF
  rw [List.any_eq_true]
theorem vTail {r : S45} {t : List S45} (h : Valid (r :: t)) : Valid t := ⟨fun x hx => h.1 x (by simp [hx]), (List.pairwise_cons.1 h.2).2⟩
theorem vHead {r : S45} {t : List S45} (h : Valid (r :: t)) : okRun r := h.1 r (by simp)
theorem vApart {r : S45} {t : List S45} (h : Valid (r :: t)) (i : Nat) (h1 : inRun r i = true) : gridF t i = false := by
  rw [Bool.eq_false_iff]
  intro h2
  obtain ⟨q, hq, hi⟩ := (gridF_iff t i).1 h2
  have hb := (List.pairwise_cons.1 h.2).1 q hq
  have a1 := (inRun_iff r i).1 h1
  have a2 := (inRun_iff q i).1 hi
  unfold before at hb
  omega
/-- The first pixel of a region. -/
theorem vFirst {r : S45} {t : List S45} (h : Valid (r :: t)) (i : Nat) (hi : gridF (r :: t) i = true) : r.f0 < (i / 16 : Nat) ∨ (r.f0 = (i / 16 : Nat) ∧ r.f1 ≤ (i % 16 : Nat)) := by
  have hr := (vHead h)
  rw [gridF_cons, Bool.or_eq_true] at hi
  rcases hi with hi | hi
  · have := (inRun_iff r i).1 hi
    omega
  · obtain ⟨q, hq, hqi⟩ := (gridF_iff t i).1 hi
    have hb := (List.pairwise_cons.1 h.2).1 q hq
    have a2 := (inRun_iff q i).1 hqi
    unfold before okRun at *
    omega
theorem run_first (r : S45) (h : okRun r) : inRun r (16 * r.f0.toNat + r.f1.toNat) = true ∧ 16 * r.f0.toNat + r.f1.toNat < 256 := by
  unfold okRun at h
  rw [inRun_iff]
  omega
theorem vEnds {r : S45} {t : List S45} (h : Valid (r :: t)) (h16 : r.f2 < 16) : gridF (r :: t) (16 * r.f0.toNat + r.f2.toNat) = false := by
  have hr := (vHead h)
  unfold okRun at hr
  rw [Bool.eq_false_iff]
  intro hi
  obtain ⟨q, hq, hqi⟩ := (gridF_iff (r :: t) _).1 hi
  have a2 := (inRun_iff q _).1 hqi
  rcases List.mem_cons.1 hq with rfl | hq
  · omega
  · have hb := (List.pairwise_cons.1 h.2).1 q hq
    unfold before at hb
    omega
theorem run_pix (r : S45) (h : okRun r) (c : Nat) (h1 : r.f1 ≤ (c : Int)) (h2 : (c : Int) < r.f2) : inRun r (16 * r.f0.toNat + c) = true ∧ 16 * r.f0.toNat + c < 256 := by
  unfold okRun at h
  rw [inRun_iff]
  omega
theorem valid_unique : ∀ (l l' : List S45), Valid l → Valid l' → (∀ i, i < 256 → gridF l i = gridF l' i) → l = l'
  | [], [], _, _, _ => rfl
  | [], r' :: t', _, h', hg => by
    have h1 := run_first r' (vHead h')
    have := hg _ h1.2
    rw [gridF_cons, h1.1] at this
    simp [gridF] at this
  | r :: t, [], h, _, hg => by
    have h1 := run_first r (vHead h)
    have := hg _ h1.2
    rw [gridF_cons, h1.1] at this
    simp [gridF] at this
  | r :: t, r' :: t', h, h', hg => by
    have hr := (vHead h)
    have hr' := (vHead h')
    have p1 := run_first r hr
    have p2 := run_first r' hr'
    have q1 := (vFirst h') _ (by rw [← hg _ p1.2, gridF_cons, p1.1]; rfl)
    have q2 := (vFirst h) _ (by rw [hg _ p2.2, gridF_cons, p2.1]; rfl)
    have hrow : r.f0 = r'.f0 ∧ r.f1 = r'.f1 := by
      unfold okRun at hr hr'
      omega
    have hend : r.f2 = r'.f2 := by
      rcases Int.lt_trichotomy r.f2 r'.f2 with hh | hh | hh
      · have e1 := (vEnds h) (by unfold okRun at hr'; omega)
        have e2 := run_pix r' hr' r.f2.toNat (by unfold okRun at hr; omega) (by unfold okRun at hr; omega)
        rw [← hrow.1] at e2
        have := hg _ e2.2
        rw [e1, gridF_cons, e2.1] at this
        simp at this
      · exact hh
      · have e1 := (vEnds h') (by unfold okRun at hr; omega)
        have e2 := run_pix r hr r'.f2.toNat (by unfold okRun at hr'; omega) (by unfold okRun at hr'; omega)
        rw [hrow.1] at e2
        have := hg _ e2.2
        rw [e1, gridF_cons, e2.1] at this
        simp at this
    have hrr : r = r' := by
      cases r
      cases r'
      simp only [] at hrow hend
      obtain ⟨rfl, rfl⟩ := hrow
      subst hend
      rfl
    subst hrr
    congr 1
    refine valid_unique t t' (vTail h) (vTail h') fun i hi => ?_
    have := hg i hi
    rw [gridF_cons, gridF_cons] at this
    cases hin : inRun r i with
    | true => rw [(vApart h) i hin, (vApart h') i hin]
    | false => rwa [hin, Bool.false_or, Bool.false_or] at this
theorem runsL_gridF (l : List S45) (h : Valid l) : runsL (gridF l) = l := valid_unique _ _ (runsL_valid _) h fun i hi => gridF_runsL _ i hi
theorem valid_length (l : List S45) (h : Valid l) : l.length ≤ 256 := by
  rw [← runsL_gridF l h]
  exact runsUpto_length _ 256
theorem runsL_nil_iff (f : Nat → Bool) : runsL f = [] ↔ ∀ i, i < 256 → f i = false := by
  constructor
  · intro h i hi
    rw [← gridF_runsL f i hi, h]
    rfl
  · intro h
    refine valid_unique _ _ (runsL_valid _) ⟨fun r hr => by simp at hr, List.Pairwise.nil⟩ fun i hi => ?_
    rw [gridF_runsL f i hi, h i hi]
    rfl
def cnt (f : Nat → Bool) (n : Nat) : Nat := ((List.range n).filter f).length
theorem cnt_zero (f : Nat → Bool) : cnt f 0 = 0 := rfl
theorem cnt_succ (f : Nat → Bool) (n : Nat) : cnt f (n + 1) = cnt f n + if f n = true then 1 else 0 := by
  unfold cnt
  rw [List.range_succ, List.filter_append]
  cases h : f n <;> simp [h]
theorem cnt_congr {f g : Nat → Bool} (n : Nat) (h : ∀ i, i < n → f i = g i) : cnt f n = cnt g n := by
  induction n with
  | zero => rfl
  | succ n ih => rw [cnt_succ, cnt_succ, ih (fun i hi => h i (by omega)), h n (by omega)]
theorem cnt_add (f g : Nat → Bool) (n : Nat) (h : ∀ i, i < n → f i = true → g i = false) : cnt (fun i => f i || g i) n = cnt f n + cnt g n := by
  induction n with
  | zero => rfl
  | succ n ih =>
    rw [cnt_succ, cnt_succ, cnt_succ, ih (fun i hi => h i (by omega))]
    cases hf : f n with
    | true =>
      have := h n (by omega) hf
      rw [this]
      simp
      omega
    | false => simp; omega
theorem cnt_inRun (r : S45) (h : okRun r) : (cnt (inRun r) 256 : Int) = r.f2 - r.f1 := by
  obtain ⟨y, hy⟩ : ∃ y : Nat, r.f0 = y := ⟨r.f0.toNat, by unfold okRun at h; omega⟩
  obtain ⟨a, ha⟩ : ∃ a : Nat, r.f1 = a := ⟨r.f1.toNat, by unfold okRun at h; omega⟩
  obtain ⟨e, he⟩ : ∃ e : Nat, r.f2 = e := ⟨r.f2.toNat, by unfold okRun at h; omega⟩
  unfold okRun at h
  have key : ∀ n, n ≤ 256 → cnt (inRun r) n = if n ≤ 16 * y + a then 0 else if n ≤ 16 * y + e then n - (16 * y + a) else e - a := by
    intro n
    induction n with
    | zero => intro _; rw [cnt_zero]; split <;> omega
    | succ n ih =>
      intro hn
      rw [cnt_succ, ih (by omega)]
      have hi : inRun r n = true ↔ (16 * y + a ≤ n ∧ n < 16 * y + e) := by
        rw [inRun_iff]
        omega
      by_cases hin : 16 * y + a ≤ n ∧ n < 16 * y + e
      · rw [if_pos (hi.2 hin)]
        split <;> split <;> (try split) <;> (try split) <;> omega
      · rw [if_neg (fun h => hin (hi.1 h))]
        split <;> split <;> (try split) <;> (try split) <;> omega
  rw [key 256 (Nat.le_refl _)]
  split
  · omega
  · split <;> omega
/-- The sum of the runs' lengths. -/
def areaL : List S45 → Int
  | [] => 0
  | r :: t => (r.f2 - r.f1) + areaL t
theorem areaL_cnt : ∀ l : List S45, Valid l → areaL l = (cnt (gridF l) 256 : Int)
  | [], _ => by
    have : cnt (gridF []) 256 = 0 := by
      have : ∀ n, cnt (gridF []) n = 0 := fun n => by
        induction n with
        | zero => rfl
        | succ n ih => rw [cnt_succ, ih]; simp [gridF]
      exact this 256
    rw [this]
    rfl
  | r :: t, h => by
    rw [areaL, areaL_cnt t (vTail h), ← cnt_inRun r (vHead h)]
    have e : cnt (gridF (r :: t)) 256 = cnt (fun i => inRun r i || gridF t i) 256 := cnt_congr 256 fun i _ => gridF_cons r t i
    rw [e, cnt_add _ _ _ (fun i _ hi => (vApart h) i hi)]
    omega
theorem cnt_mono {f g : Nat → Bool} (n : Nat) (h : ∀ i, i < n → f i = true → g i = true) : cnt f n ≤ cnt g n := by
  induction n with
  | zero => exact Nat.le_refl _
  | succ n ih =>
    rw [cnt_succ, cnt_succ]
    have := ih (fun i hi => h i (by omega))
    by_cases hf : f n = true
    · rw [if_pos hf, if_pos (h n (by omega) hf)]
      omega
    · rw [if_neg hf]
      omega

theorem areaL_drop (l : List S45) (i : Nat) (h : i < l.length) : areaL (l.drop i) = (l[i].f2 - l[i].f1) + areaL (l.drop (i + 1)) := by
  rw [drop_cons_ l i h]
  rfl
theorem impl_AreaOf.ev_l0 (l : List S45) (hok : RunsOk l) (hl : l.length ≤ 256) (d : Nat) : ∀ i n, i ≤ l.length → l.length - i = d → 0 ≤ n → n ≤ 16 * (i : Int) →
    Ev (fun k => impl_AreaOf.l0 k n l (l.length : Int) (i : Int)) (n + areaL (l.drop i)) := by
  induction d with
  | zero =>
    intro i n hi hd h0 h1
    refine Ev.step (fun k => by simp only [impl_AreaOf.l0]; rfl) (evNeg (by omega) (evRet ?_))
    rw [List.drop_of_length_le (by omega)]
    simp [areaL]
  | succ d ih =>
    intro i n hi hd h0 h1
    have hr := rdRun_get l i (by omega)
    have hb := hok l[i] (List.getElem_mem _)
    rw [areaL_drop l i (by omega)]
    refine Ev.step (fun k => by simp only [impl_AreaOf.l0, hr, wrapSucc i (by omega)]; rfl) (evPos (by omega) (evPos (by omega) (evPos (by omega) ?_)))
    generalize l[i] = r at *
    rw [wrapIn (x := r.f2 - r.f1) (by omega) (by omega), wrapIn (x := n + (r.f2 - r.f1)) (by omega) (by omega)]
    have := ih (i + 1) (n + (r.f2 - r.f1)) (by omega) (by omega) (by omega) (by omega)
    rwa [Int.add_assoc] at this
theorem impl_AreaOf.ev (l : List S45) (hl : l.length ≤ 9223372036854775807) : Ev (fun k => impl_AreaOf.f k l) (if Valid l then areaL l else -1) := by
  unfold impl_AreaOf.f
  refine evBind (impl_isRegion.ev l hl) (evIf (fun h => ?_) (fun h => evRet ?_))
  · rw [decide_eq_true_eq] at h
    rw [if_pos h]
    have := impl_AreaOf.ev_l0 l h.1 (valid_length l h) l.length 0 0 (by omega) (by omega) (by omega) (by omega)
    simpa using this
  · rw [decide_eq_true_eq] at h
    rw [if_neg h]

def gl (f : Nat → Bool) : List Bool := (List.range 256).map f
theorem gl_length (f : Nat → Bool) : (gl f).length = 256 := by simp [gl]
theorem gl_rd (f : Nat → Bool) (i : Nat) (h : i < 256) : rdOf false (gl f) (i : Int) = f i := by
  simp [rdOf, gl, List.getD_eq_getElem?_getD, List.getElem?_map, List.getElem?_range h]
theorem gl_get (f : Nat → Bool) (j : Nat) (h : j < (gl f).length) : (gl f)[j] = f j := by simp [gl]
theorem gl_set (f : Nat → Bool) (i : Nat) (b : Bool) : (gl f).set i b = gl (fun j => if j = i then b else f j) := by
  apply List.ext_getElem
  · simp [gl]
  · intro j h1 h2
    simp only [List.getElem_set, gl, List.getElem_map, List.getElem_range]
    by_cases h : i = j
    · subst h; simp
    · rw [if_neg h, if_neg (fun e => h e.symm)]
theorem gl_congr {f g : Nat → Bool} (h : ∀ i, i < 256 → f i = g i) : gl f = gl g := by
  unfold gl
  exact List.map_congr_left fun i hi => h i (by simpa using hi)
theorem gl_false : List.replicate 256 false = gl (fun _ => false) := by
  apply List.ext_getElem
  · rw [List.length_replicate, gl_length]
  · intro j h1 h2
    rw [List.getElem_replicate, gl_get]
theorem runAt_congr {f g : Nat → Bool} (h : ∀ i, i < 256 → f i = g i) (i : Nat) (hi : i < 256) : runAt f i = runAt g i := by
  have he : ∀ y, y < 16 → ∀ d, d ≤ 16 → endAt f y d = endAt g y d := by
    intro y hy d
    induction d with
    | zero => intro _; rfl
    | succ d ih =>
      intro hd
      simp only [endAt]
      rw [h (16 * y + (15 - d)) (by omega), ih (by omega)]
  have hs : startB f i = startB g i := by
    unfold startB
    rw [h i hi, h (i - 1) (by omega)]
  unfold runAt endOf
  rw [hs, he (i / 16) (by omega) _ (by omega)]
theorem runsL_congr {f g : Nat → Bool} (h : ∀ i, i < 256 → f i = g i) : runsL f = runsL g := by
  unfold runsL runsUpto
  have : ∀ l : List Nat, (∀ i ∈ l, i < 256) → l.filterMap (runAt f) = l.filterMap (runAt g) := by
    intro l
    induction l with
    | nil => intro _; rfl
    | cons a t ih =>
      intro hl
      rw [List.filterMap_cons, List.filterMap_cons, runAt_congr h a (hl a (by simp)), ih (fun i hi => hl i (by simp [hi]))]
  exact this _ (fun i hi => by simpa using hi)

/-- A code that a reader reads. -/
def CodeOk (b : List Int) : Prop := b.length ≤ 2000 ∧ ∀ x ∈ b, 0 ≤ x ∧ x ≤ 255
theorem code_rd (b : List Int) (h : CodeOk b) (i : Int) (h0 : 0 ≤ i) (h1 : i < b.length) : 0 ≤ rd b i ∧ rd b i ≤ 255 := by
  obtain ⟨n, rfl⟩ := Int.eq_ofNat_of_zero_le h0
  rw [rdN b n (by omega)]
  exact h.2 _ (List.getElem_mem _)
theorem xor_nonneg (a b : Int) (ha : 0 ≤ a) (ha1 : a < 4611686018427387904) (hb : 0 ≤ b) (hb1 : b < 4611686018427387904) : 0 ≤ Go.bits .xor .i64 a b := by
  obtain ⟨n, rfl⟩ := Int.eq_ofNat_of_zero_le ha
  obtain ⟨m, rfl⟩ := Int.eq_ofNat_of_zero_le hb
  have hx : n ^^^ m < 2 ^ 62 := Nat.xor_lt_two_pow (by omega) (by omega)
  have e : Go.bits .xor .i64 (n : Int) (m : Int) = ((n ^^^ m : Nat) : Int) := by
    have hp : (2 : Nat) ^ IntKind.i64.bits = 18446744073709551616 := by decide
    have ha' : n % 2 ^ IntKind.i64.bits = n := Nat.mod_eq_of_lt (by omega)
    have hb' : m % 2 ^ IntKind.i64.bits = m := Nat.mod_eq_of_lt (by omega)
    simp only [bits, BitVec.ofInt_natCast, BitVec.toNat_xor, BitVec.toNat_ofNat, ha', hb']
    rw [IntKind.wrap_i64]
    omega
  rw [e]
  omega
theorem spec_reader_pick.ev (b : List Int) (h : CodeOk b) (p n : Int) (hp0 : 0 ≤ p) (hp1 : p < 1000000000) (hn : n ≤ 1000000) : ∃ v, Ev (fun k => spec_reader_pick.f k b p n) (v, p + 1) ∧ 0 ≤ v ∧ (v < n ∨ v = 0) := by
  have hw : wrap64 (p + 1) = p + 1 := wrapIn (by omega) (by omega)
  have hw1 : wrap64 (p + 1 - 1) = p := by rw [wrapIn (by omega) (by omega)]; omega
  unfold spec_reader_pick.f
  rw [hw]
  by_cases hn1 : n < 1
  · refine ⟨0, evPos hn1 (Ev.step (fun k => by simp only [spec_reader_pick.j0]; rfl) (evPos (by trivial) (evRet rfl))), by omega, .inr rfl⟩
  by_cases hb : (b.length : Int) = 0
  · refine ⟨0, evNeg hn1 (Ev.step (fun k => by simp only [spec_reader_pick.j0]; rfl) (evPos (by simp [hb]) (evRet rfl))), by omega, .inr rfl⟩
  have hbf : ((b.length : Int) == 0) = false := by simpa using hb
  have hl := h.1
  by_cases hlt : p < (b.length : Int)
  · have hr := code_rd b h p hp0 hlt
    refine ⟨Int.tmod (wrap64 (rd b p)) n, evNeg hn1 (Ev.step (fun k => by simp only [spec_reader_pick.j0, hbf, hw1]; rfl) (evNeg (by simp) (evPos hlt (evPos hp0 (evNeg (by omega) (evRet rfl)))))), ?_, .inl ?_⟩
    · exact Int.tmod_nonneg _ (by rw [wrapIn (by omega) (by omega)]; omega)
    · exact Int.tmod_lt_of_pos _ (by omega)
  · have hm0 : 0 ≤ Int.tmod p (b.length : Int) := Int.tmod_nonneg _ hp0
    have hm1 : Int.tmod p (b.length : Int) < b.length := Int.tmod_lt_of_pos _ (by omega)
    have hq : wrap64 (wrap64 (p * 7) + 3) = p * 7 + 3 := by rw [wrapIn (x := p * 7) (by omega) (by omega), wrapIn (by omega) (by omega)]
    have hk0 : 0 ≤ Int.tmod (p * 7 + 3) (b.length : Int) := Int.tmod_nonneg _ (by omega)
    have hk1 : Int.tmod (p * 7 + 3) (b.length : Int) < b.length := Int.tmod_lt_of_pos _ (by omega)
    have r1 := code_rd b h _ hm0 hm1
    have r2 := code_rd b h _ hk0 hk1
    have hd0 : 0 ≤ Int.tdiv p (b.length : Int) := Int.tdiv_nonneg hp0 (by omega)
    have hd1 : Int.tdiv p (b.length : Int) ≤ p := by
      have := Int.natAbs_tdiv_le_natAbs p (b.length : Int)
      omega
    refine ⟨_, evNeg hn1 (Ev.step (fun k => by simp only [spec_reader_pick.j0, hbf, hw1, hq]; rfl) (evNeg (by simp) (evNeg hlt (evNeg hb (evPos hm0 (evPos hm1 (evPos hk0 (evPos hk1 (evNeg (by omega) (evRet rfl)))))))))), ?_, .inl (Int.tmod_lt_of_pos _ (by omega))⟩
    generalize rd b (Int.tmod p (b.length : Int)) = u at *
    generalize rd b (Int.tmod (p * 7 + 3) (b.length : Int)) = t at *
    generalize Int.tdiv p (b.length : Int) = q at *
    rw [wrapIn (x := u) (by omega) (by omega), wrapIn (x := t) (by omega) (by omega), wrapIn (x := q) (by omega) (by omega), wrapIn (x := u * 131) (by omega) (by omega), wrapIn (x := t * 1117) (by omega) (by omega), wrapIn (x := u * 131 + t * 1117) (by omega) (by omega), wrapIn (x := p * 29) (by omega) (by omega), wrapIn (x := u * 131 + t * 1117 + p * 29) (by omega) (by omega), wrapIn (x := q * 53) (by omega) (by omega), wrapIn (x := u * 131 + t * 1117 + p * 29 + q * 53) (by omega) (by omega)]
    generalize hX : u * 131 + t * 1117 + p * 29 + q * 53 = X
    have hX0 : 0 ≤ X := by omega
    have hX1 : X < 4611686018427387904 := by omega
    have hT0 : 0 ≤ Int.tdiv X 64 := Int.tdiv_nonneg hX0 (by omega)
    have hT1 : Int.tdiv X 64 ≤ X := by
      have := Int.natAbs_tdiv_le_natAbs X 64
      omega
    rw [wrapIn (x := Int.tdiv X 64) (by omega) (by omega)]
    exact Int.tmod_nonneg _ (xor_nonneg _ _ hX0 hX1 hT0 (by omega))
theorem spec_newReader.ev (l : List Int) (hw : ∀ x ∈ l, (Lit.int .u8 x).wf = true) : ∃ b, spec_newReader.f l = some (b, 0) ∧ CodeOk b := by
  have hx : ∀ x ∈ l, 0 ≤ x ∧ x ≤ 255 := fun x hx => by
    have := hw x hx
    have hmin : IntKind.u8.min = 0 := rfl
    have hmax : IntKind.u8.max = 255 := rfl
    simp only [Lit.wf, Bool.and_eq_true, decide_eq_true_eq] at this
    omega
  unfold spec_newReader.f
  by_cases h : (l.length : Int) > 2000
  · rw [if_pos h, if_pos (by omega)]
    exact ⟨_, rfl, by simp; omega, fun x h2 => hx x (List.mem_of_mem_take h2)⟩
  · rw [if_neg h]
    exact ⟨_, rfl, by omega, hx⟩

theorem spec_reader_one.ev (b : List Int) (h : CodeOk b) (p : Int) (hp0 : 0 ≤ p) (hp1 : p < 1000000000) (l : List Int) (hl0 : 0 < l.length) (hl1 : l.length ≤ 1000) : ∃ v, Ev (fun k => spec_reader_one.f k b p l) (v, p + 1) ∧ v ∈ l := by
  obtain ⟨v, hv, h0, h1⟩ := spec_reader_pick.ev b h p (l.length : Int) hp0 hp1 (by omega)
  have hlt : v < l.length := by omega
  refine ⟨rd l v, ?_, ?_⟩
  · unfold spec_reader_one.f
    exact evBind hv (evPos h0 (evPos hlt (evRet rfl)))
  · obtain ⟨n, rfl⟩ := Int.eq_ofNat_of_zero_le h0
    rw [rdN l n (by omega)]
    exact List.getElem_mem _

theorem runsL_length (f : Nat → Bool) : (runsL f).length ≤ 256 := runsUpto_length f 256

/-- The reference's runs of a row, from column x on. -/
def RowAt (f : Nat → Bool) (y : Nat) (out : List S45) (fr : Int) (x : Nat) : Prop :=
  (fr = -1 ∧ (x = 0 ∨ f (16 * y + x - 1) = false) ∧ out = runsUpto f (16 * y + x)) ∨
  ∃ a : Nat, fr = (a : Int) ∧ a < x ∧ (∀ i, a ≤ i → i < x → f (16 * y + i) = true) ∧ (a = 0 ∨ f (16 * y + a - 1) = false) ∧ out = runsUpto f (16 * y + a)
theorem endOf_eq (f : Nat → Bool) (y a x : Nat) (hax : a ≤ x) (hx : x ≤ 16) (h : ∀ i, a ≤ i → i < x → f (16 * y + i) = true) (he : x = 16 ∨ f (16 * y + x) = false) : endOf f y a = x := by
  obtain ⟨h1, h2, h3, h4⟩ := endOf_facts f y (16 - a) a (by omega) rfl
  rcases Nat.lt_trichotomy (endOf f y a) x with hh | hh | hh
  · have := h (endOf f y a) h1 hh
    rw [h4 (by omega)] at this
    cases this
  · exact hh
  · rcases he with he | he
    · omega
    · have := h3 x hax hh
      rw [he] at this
      cases this
theorem spec_runsOf.ev_l1 (f : Nat → Bool) (y : Nat) (hy : y < 16) (R : List S45) (hR : Ev (fun k => spec_runsOf.l0 k (gl f) (runsUpto f (16 * (y + 1))) ((y + 1 : Nat) : Int)) R) (d : Nat) : ∀ x out fr, x ≤ 17 → 17 - x = d → (x = 17 → fr = -1 ∧ out = runsUpto f (16 * (y + 1))) → (x ≤ 16 → RowAt f y out fr x) →
    Ev (fun k => spec_runsOf.l1 k (gl f) out (y : Int) fr (x : Int)) R := by
  have hwy : wrap64 ((y : Int) + 1) = ((y + 1 : Nat) : Int) := wrapSucc y (by omega)
  induction d with
  | zero =>
    intro x out fr hx hd h17 _
    obtain ⟨_, rfl⟩ := h17 (by omega)
    exact Ev.step (fun k => by simp only [spec_runsOf.l1, hwy]; rfl) (evNeg (by omega) hR)
  | succ d ih =>
    intro x out fr hx hd _ hrow
    have hrow := hrow (by omega)
    have hw : wrap64 ((x : Int) + 1) = ((x + 1 : Nat) : Int) := wrapSucc x (by omega)
    have hlen : ∀ n, (runsUpto f n).length < 5864062014805 ∨ 5864062014805 ≤ n := fun n => by have := runsUpto_length f n; omega
    refine Ev.step (fun k => by simp only [spec_runsOf.l1, hwy]; rfl) (evPos (by omega) ?_)
    -- the pixel there
    obtain ⟨p, hp, hgo⟩ : ∃ p : Bool, (x < 16 ∧ p = f (16 * y + x) ∨ x = 16 ∧ p = false) ∧ (Ev (fun k => spec_runsOf.j2 k (gl f) out (y : Int) fr (x : Int) p) R → Ev (fun k => if (x : Int) < 16 then (if 0 ≤ (wrap64 ((wrap64 ((y : Int) * 16)) + x)) then (if (wrap64 ((wrap64 ((y : Int) * 16)) + x)) < ((gl f).length : Int) then (spec_runsOf.j2 k (gl f) out (y : Int) fr (x : Int) (rdOf false (gl f) (wrap64 ((wrap64 ((y : Int) * 16)) + x)))) else (none)) else (none)) else (spec_runsOf.j2 k (gl f) out (y : Int) fr (x : Int) false)) R) := by
      by_cases h : x < 16
      · have hi : wrap64 ((wrap64 ((y : Int) * 16)) + x) = ((16 * y + x : Nat) : Int) := by rw [wrapIn (x := (y : Int) * 16) (by omega) (by omega), wrapIn (by omega) (by omega)]; omega
        refine ⟨f (16 * y + x), .inl ⟨h, rfl⟩, fun he => ?_⟩
        rw [hi]
        refine evPos (by omega) (evPos (by omega) (evPos (by rw [gl_length]; omega) ?_))
        rw [gl_rd f _ (by omega)]
        exact he
      · exact ⟨false, .inr ⟨by omega, rfl⟩, fun he => evNeg (by omega) he⟩
    refine hgo ?_
    have hnext : RowAt f y (if p = true then out else if fr = -1 then out else out ++ [⟨(y : Int), fr, (x : Int)⟩]) (if p = true then (if fr = -1 then (x : Int) else fr) else -1) (x + 1) ∨ x = 16 := by
      rcases hp with ⟨h16, hp⟩ | ⟨h16, _⟩
      · left
        rcases hrow with ⟨rfl, hprev, rfl⟩ | ⟨a, rfl, ha, hall, hprev, rfl⟩
        · cases hpv : p with
          | true =>
            right
            refine ⟨x, by simp, by omega, fun i h1 h2 => ?_, hprev, by simp⟩
            obtain rfl : i = x := by omega
            rw [← hp, hpv]
          | false =>
            left
            refine ⟨by simp, .inr (by rw [show 16 * y + (x + 1) - 1 = 16 * y + x by omega, ← hp, hpv]), ?_⟩
            rw [if_neg (by simp), if_pos rfl, show 16 * y + (x + 1) = 16 * y + x + 1 by omega, runsUpto_false f _ (by rw [← hp, hpv])]
        · have hne : ¬ ((a : Int) = -1) := by omega
          cases hpv : p with
          | true =>
            right
            refine ⟨a, by simp [hne], by omega, fun i h1 h2 => ?_, hprev, by simp⟩
            rcases Nat.lt_or_ge i x with h3 | h3
            · exact hall i h1 h3
            · obtain rfl : i = x := by omega
              rw [← hp, hpv]
          | false =>
            left
            have hf0 : f (16 * y + x) = false := by rw [← hp, hpv]
            have hend := endOf_eq f y a x (by omega) (by omega) hall (.inr hf0)
            refine ⟨by simp, .inr (by rw [show 16 * y + (x + 1) - 1 = 16 * y + x by omega]; exact hf0), ?_⟩
            have hrun := runsUpto_run f y a (by omega) (hall a (by omega) ha) hprev
            rw [hend] at hrun
            rw [if_neg (by simp), if_neg hne, show 16 * y + (x + 1) = 16 * y + x + 1 by omega, runsUpto_false f _ hf0, hrun]
      · exact .inr h16
    have hlast : x = 16 → (if p = true then (if fr = -1 then (x : Int) else fr) else (-1 : Int)) = -1 ∧ (if p = true then out else if fr = -1 then out else out ++ [⟨(y : Int), fr, (x : Int)⟩]) = runsUpto f (16 * (y + 1)) := by
      intro h16
      have hpf : p = false := by
        rcases hp with ⟨h, _⟩ | ⟨_, h⟩
        · omega
        · exact h
      subst hpf
      refine ⟨by simp, ?_⟩
      rw [if_neg (by simp)]
      rcases hrow with ⟨rfl, hprev, rfl⟩ | ⟨a, rfl, ha, hall, hprev, rfl⟩
      · rw [if_pos rfl, h16]
        rfl
      · rw [if_neg (by omega)]
        have hend := endOf_eq f y a x (by omega) (by omega) hall (.inl h16)
        have hrun := runsUpto_run f y a (by omega) (hall a (by omega) ha) hprev
        rw [hend] at hrun
        rw [← hrun, h16]
        rfl
    have hcont := ih (x + 1) (if p = true then out else if fr = -1 then out else out ++ [⟨(y : Int), fr, (x : Int)⟩]) (if p = true then (if fr = -1 then (x : Int) else fr) else -1) (by omega) (by omega) (fun h => hlast (by omega)) (fun h => by
      rcases hnext with h2 | h2
      · exact h2
      · omega)
    have hfr : fr = -1 ∨ 0 ≤ fr := by
      rcases hrow with ⟨rfl, _⟩ | ⟨a, rfl, _⟩
      · exact .inl rfl
      · exact .inr (by omega)
    have hol : out.length < 5864062014805 := by
      rcases hrow with ⟨_, _, rfl⟩ | ⟨a, _, _, _, _, rfl⟩
      · rcases hlen (16 * y + x) with h | h <;> omega
      · rcases hlen (16 * y + a) with h | h <;> omega
    cases p with
    | true =>
      rw [if_pos rfl, if_pos rfl] at hcont
      refine Ev.step (fun k => by simp only [spec_runsOf.j2]; rfl) ?_
      refine evPos (by trivial) ?_
      refine Ev.step (fun k => by simp only [spec_runsOf.j3, hw]; rfl) ?_
      rcases hfr with rfl | h0
      · rw [if_pos rfl] at hcont
        exact evPos (by simp) (evPos (by trivial) hcont)
      · rw [if_neg (by omega)] at hcont
        exact evNeg (by simp; omega) (evPos (by trivial) hcont)
    | false =>
      simp only [Bool.false_eq_true, if_false] at hcont
      refine Ev.step (fun k => by simp only [spec_runsOf.j2]; rfl) ?_
      refine evNeg (by first | exact not_false | simp) ?_
      refine Ev.step (fun k => by simp only [spec_runsOf.j3, hw]; rfl) ?_
      refine evNeg (by first | exact not_false | simp) ?_
      refine evNeg (by first | exact not_false | simp) ?_
      rcases hfr with rfl | h0
      · rw [if_pos rfl] at hcont
        exact evNeg (by omega) hcont
      · rw [if_neg (by omega)] at hcont
        exact evPos (by omega) (evPos hol hcont)
theorem spec_runsOf.ev_l0 (f : Nat → Bool) (d : Nat) : ∀ y, y ≤ 16 → 16 - y = d → Ev (fun k => spec_runsOf.l0 k (gl f) (runsUpto f (16 * y)) (y : Int)) (runsL f) := by
  induction d with
  | zero =>
    intro y hy hd
    obtain rfl : y = 16 := by omega
    exact Ev.step (fun k => by simp only [spec_runsOf.l0]; rfl) (evNeg (by omega) (evRet rfl))
  | succ d ih =>
    intro y hy hd
    refine Ev.step (fun k => by simp only [spec_runsOf.l0]; rfl) (evPos (by omega) ?_)
    have := spec_runsOf.ev_l1 f y (by omega) (runsL f) (ih (y + 1) (by omega) (by omega)) 17 0 (runsUpto f (16 * y)) (-1) (by omega) rfl (fun h => by omega) (fun _ => .inl ⟨rfl, .inl rfl, rfl⟩)
    exact this
theorem spec_runsOf.ev (f : Nat → Bool) : Ev (fun k => spec_runsOf.f k (gl f)) (runsL f) := spec_runsOf.ev_l0 f 16 0 (by omega) rfl

theorem inRange_val (a lo hi : Int) : spec_inRange.f a lo hi = some (decide (lo ≤ a ∧ a ≤ hi)) := by
  unfold spec_inRange.f
  split
  · rename_i h; simp [h]
  · rename_i h; simp [h]

theorem onGrid_val (a b : Int) : spec_onGrid.f a b = some (decide ((0 ≤ a ∧ a ≤ 15) ∧ (0 ≤ b ∧ b ≤ 15))) := by
  unfold spec_onGrid.f
  rw [inRange_val, inRange_val]
  simp only [Option.bind_some]
  by_cases h : 0 ≤ a ∧ a ≤ 15
  · simp [h]
  · simp [h]

theorem spec_DiscRegion.ev_l0 (x y r : Int) (hk : discOk x y r) (d : Nat) : ∀ p, p ≤ 256 → 256 - p = d →
    Ev (fun k => spec_DiscRegion.l0 k x y r (gl fun j => decide (j < p) && discF x y r j) (p : Int)) (runsL (discF x y r)) := by
  obtain ⟨h1, h2, h3, h4, h5, h6⟩ := hk
  induction d with
  | zero =>
    intro p hp hd
    obtain rfl : p = 256 := by omega
    refine Ev.step (fun k => by simp only [spec_DiscRegion.l0]; rfl) (evNeg (by rw [gl_length]; omega) ?_)
    rw [gl_congr (g := discF x y r) (fun i hi => by rw [decide_eq_true hi, Bool.true_and])]
    exact evBind (spec_runsOf.ev _) (evRet rfl)
  | succ d ih =>
    intro p hp hd
    have hw : wrap64 ((p : Int) + 1) = ((p + 1 : Nat) : Int) := wrapSucc p (by omega)
    have ht : Int.tmod (p : Int) 16 = ((p % 16 : Nat) : Int) := by rw [Int.tmod_eq_emod_of_nonneg (by omega)]; omega
    have hq : Int.tdiv (p : Int) 16 = ((p / 16 : Nat) : Int) := by rw [Int.tdiv_eq_ediv_of_nonneg (by omega)]; omega
    have q1 := sq_bound ((p % 16 : Nat) : Int) x (by omega) (by omega) h1 (by omega)
    have q2 := sq_bound ((p / 16 : Nat) : Int) y (by omega) (by omega) h3 (by omega)
    have q3 := sq_bound r 0 h5 h6 (by omega) (by omega)
    rw [Int.sub_zero] at q3
    have := ih (p + 1) (by omega) (by omega)
    refine Ev.step (f := fun k => spec_DiscRegion.l0 k x y r (gl fun j => decide (j < p + 1) && discF x y r j) ((p + 1 : Nat) : Int)) (fun k => ?_) this
    simp only [spec_DiscRegion.l0, hw, ht, hq]
    rw [if_pos (by rw [gl_length]; omega), if_pos (by omega), wrapIn (x := ((p / 16 : Nat) : Int)) (by omega) (by omega), wrapIn (x := ((p % 16 : Nat) : Int) - x) (by omega) (by omega), wrapIn (x := ((p / 16 : Nat) : Int) - y) (by omega) (by omega)]
    rw [wrapIn (x := (((p % 16 : Nat) : Int) - x) * (((p % 16 : Nat) : Int) - x)) (by omega) (by omega), wrapIn (x := (((p / 16 : Nat) : Int) - y) * (((p / 16 : Nat) : Int) - y)) (by omega) (by omega), wrapIn (x := r * r) (by omega) (by omega)]
    rw [wrapIn (x := (((p % 16 : Nat) : Int) - x) * (((p % 16 : Nat) : Int) - x) + (((p / 16 : Nat) : Int) - y) * (((p / 16 : Nat) : Int) - y)) (by omega) (by omega)]
    rw [Int.toNat_natCast, gl_set]
    congr 1
    refine gl_congr fun i hi => ?_
    by_cases e : i = p
    · subst e
      rw [if_pos rfl, decide_eq_true (show i < i + 1 by omega), Bool.true_and]
      rfl
    · rw [if_neg e]
      congr 1
      exact decide_eq_decide.mpr (by omega)
theorem spec_DiscRegion.ev (x y r : Int) : Ev (fun k => spec_DiscRegion.f k x y r) (if discOk x y r then runsL (discF x y r) else []) := by
  have hno : ¬ discOk x y r → Ev (fun k => spec_DiscRegion.j0 k x y r true) (if discOk x y r then runsL (discF x y r) else []) := fun h => by
    rw [if_neg h]
    exact Ev.step (fun k => by simp only [spec_DiscRegion.j0]; rfl) (evPos (by trivial) (evRet rfl))
  unfold spec_DiscRegion.f
  refine evFix (onGrid_val x y) (evIf (fun h => ?_) (fun h => ?_))
  · rw [decide_eq_true_eq] at h
    refine evFix (inRange_val r 0 16) ?_
    by_cases h2 : 0 ≤ r ∧ r ≤ 16
    · have hk : discOk x y r := ⟨h.1.1, by omega, h.2.1, by omega, h2.1, h2.2⟩
      rw [decide_eq_true h2, if_pos hk]
      refine Ev.step (fun k => by simp only [spec_DiscRegion.j0]; rfl) ?_
      refine evNeg (by simp) (evPos (by omega) ?_)
      rw [gl_false]
      have := spec_DiscRegion.ev_l0 x y r hk 256 0 (by omega) (by omega)
      rw [gl_congr (g := fun _ => false) (fun i hi => by rw [decide_eq_false (by omega)]; rfl)] at this
      exact this
    · rw [decide_eq_false h2]
      exact hno fun hk => h2 ⟨hk.2.2.2.2.1, hk.2.2.2.2.2⟩
  · rw [decide_eq_true_eq] at h
    exact hno fun hk => h ⟨⟨hk.1, by have := hk.2.1; omega⟩, hk.2.2.1, by have := hk.2.2.2.1; omega⟩

theorem gl_of (l : List Bool) (h : l.length = 256) : l = gl (fun i => l.getD i false) := by
  apply List.ext_getElem
  · rw [gl_length, h]
  · intro i h1 h2
    rw [gl_get]
    simp [List.getD_eq_getElem?_getD, List.getElem?_eq_getElem h1]
theorem runsOf_any (l : List Bool) (h : l.length = 256) : ∃ r, Ev (fun k => spec_runsOf.f k l) r ∧ r.length ≤ 256 := by
  rw [gl_of l h]
  exact ⟨_, spec_runsOf.ev _, runsL_length _⟩
theorem spec_randomRegion.ev_j3 (b : List Int) (hb : CodeOk b) (x : List Bool) (hx : x.length = 256) (p : Int) (h0 : 0 ≤ p) (h1 : p ≤ 900000) :
    ∃ r q, Ev (fun k => spec_randomRegion.j3 k x b p) (r, q) ∧ 0 ≤ q ∧ q ≤ p + 2 ∧ r.length ≤ 256 := by
  obtain ⟨v, hv, _, _⟩ := spec_reader_pick.ev b hb p 10 h0 (by omega) (by omega)
  by_cases e : v = 0
  · obtain ⟨u, hu, hm⟩ := spec_reader_one.ev b hb (p + 1) (by omega) (by omega) [15, 240, 255, 0] (by simp) (by simp)
    have hu2 : 0 ≤ u ∧ u < 256 := by simp at hm; omega
    obtain ⟨r, hr, hl⟩ := runsOf_any (x.set u.toNat true) (by simpa using hx)
    refine ⟨r, p + 1 + 1, ?_, by omega, by omega, hl⟩
    refine Ev.step (fun k => by simp only [spec_randomRegion.j3]; rfl) (evBind hv ?_)
    refine evPos e (evBind hu ?_)
    refine evPos hu2.1 ?_
    refine evPos (by omega) (evBind hr (evRet rfl))
  · obtain ⟨r, hr, hl⟩ := runsOf_any x hx
    refine ⟨r, p + 1, ?_, by omega, by omega, hl⟩
    refine Ev.step (fun k => by simp only [spec_randomRegion.j3]; rfl) (evBind hv ?_)
    exact evNeg e (evBind hr (evRet rfl))
theorem spec_randomRegion.ev_l0 (b : List Int) (hb : CodeOk b) (n : Nat) : ∀ (x : List Bool) (p : Int), x.length = 256 → 0 ≤ p → p + 2 * n ≤ 900000 →
    ∃ r q, Ev (fun k => spec_randomRegion.l0 k x (n : Int) b p) (r, q) ∧ 0 ≤ q ∧ q ≤ p + 2 * n + 2 ∧ r.length ≤ 256 := by
  induction n with
  | zero =>
    intro x p hx h0 h1
    obtain ⟨r, q, hr, q0, q1, hl⟩ := spec_randomRegion.ev_j3 b hb x hx p h0 (by omega)
    exact ⟨r, q, Ev.step (fun k => by simp only [spec_randomRegion.l0]; rfl) (evNeg (by omega) hr), q0, by omega, hl⟩
  | succ n ih =>
    intro x p hx h0 h1
    obtain ⟨v, hv, v0, v1⟩ := spec_reader_pick.ev b hb p 6 h0 (by omega) (by omega)
    obtain ⟨u, hu, u0, u1⟩ := spec_reader_pick.ev b hb (p + 1) 6 (by omega) (by omega) (by omega)
    have hi : wrap64 ((wrap64 (v * 16)) + u) = v * 16 + u := by rw [wrapIn (x := v * 16) (by omega) (by omega), wrapIn (by omega) (by omega)]
    have hn : wrap64 (((n + 1 : Nat) : Int) - 1) = (n : Int) := by rw [wrapIn (by omega) (by omega)]; omega
    obtain ⟨r, q, hr, q0, q1, hl⟩ := ih (x.set (v * 16 + u).toNat true) (p + 1 + 1) (by simpa using hx) (by omega) (by omega)
    refine ⟨r, q, ?_, q0, by omega, hl⟩
    refine Ev.step (fun k => by simp only [spec_randomRegion.l0, hn]; rfl) ?_
    refine evPos (by omega) (evBind hv (evBind hu ?_))
    simp only [hi]
    refine evPos (by omega) ?_
    exact evPos (by omega) hr
theorem spec_randomRegion.ev_l2 (b : List Int) (n : Nat) (p : Int) (C : List S45 → Int → Prop)
    (hnext : ∀ x : List Bool, x.length = 256 → ∃ r q, Ev (fun k => spec_randomRegion.l1 k x (n : Int) b p) (r, q) ∧ C r q) (hn : n ≤ 100000) (X Y : Int) (hX0 : 0 ≤ X) (hX1 : X ≤ 7) (hY0 : 0 ≤ Y) (hY1 : Y ≤ 7) (d : Nat) :
    ∀ (i : Nat) (x : List Bool), i ≤ 12 → 12 - i = d → x.length = 256 → ∃ r q, Ev (fun k => spec_randomRegion.l2 k x ((n + 1 : Nat) : Int) X Y (i : Int) b p) (r, q) ∧ C r q := by
  have hn1 : wrap64 (((n + 1 : Nat) : Int) - 1) = (n : Int) := by rw [wrapIn (by omega) (by omega)]; omega
  induction d with
  | zero =>
    intro i x hi hd hx
    obtain ⟨r, q, hr, hc⟩ := hnext x hx
    exact ⟨r, q, Ev.step (fun k => by simp only [spec_randomRegion.l2, hn1]; rfl) (evNeg (by omega) hr), hc⟩
  | succ d ih =>
    intro i x hi hd hx
    have hw : wrap64 ((i : Int) + 1) = ((i + 1 : Nat) : Int) := wrapSucc i (by omega)
    have ht : Int.tmod (i : Int) 4 = ((i % 4 : Nat) : Int) := by rw [Int.tmod_eq_emod_of_nonneg (by omega)]; omega
    have hq : Int.tdiv (i : Int) 4 = ((i / 4 : Nat) : Int) := by rw [Int.tdiv_eq_ediv_of_nonneg (by omega)]; omega
    have hidx : wrap64 ((wrap64 ((wrap64 ((wrap64 (Y + (wrap64 (Int.tdiv (i : Int) 4)))) * 16)) + X)) + (Int.tmod (i : Int) 4)) = (Y + (i / 4 : Nat)) * 16 + X + (i % 4 : Nat) := by
      rw [ht, hq, wrapIn (x := ((i / 4 : Nat) : Int)) (by omega) (by omega), wrapIn (x := Y + ((i / 4 : Nat) : Int)) (by omega) (by omega), wrapIn (x := (Y + ((i / 4 : Nat) : Int)) * 16) (by omega) (by omega), wrapIn (x := (Y + ((i / 4 : Nat) : Int)) * 16 + X) (by omega) (by omega), wrapIn (by omega) (by omega)]
    obtain ⟨r, q, hr, hc⟩ := ih (i + 1) (x.set ((Y + (i / 4 : Nat)) * 16 + X + (i % 4 : Nat) : Int).toNat true) (by omega) (by omega) (by simpa using hx)
    refine ⟨r, q, ?_, hc⟩
    refine Ev.step (fun k => by simp only [spec_randomRegion.l2, hw, hidx]; rfl) ?_
    refine evPos (by omega) ?_
    refine evPos (by omega) ?_
    exact evPos (by omega) hr
theorem spec_randomRegion.ev_l1 (b : List Int) (hb : CodeOk b) (n : Nat) : ∀ (x : List Bool) (p : Int), x.length = 256 → 0 ≤ p → p + 2 * n ≤ 90000 →
    ∃ r q, Ev (fun k => spec_randomRegion.l1 k x (n : Int) b p) (r, q) ∧ (0 ≤ q ∧ q ≤ p + 2 * n + 2 ∧ r.length ≤ 256) := by
  induction n with
  | zero =>
    intro x p hx h0 h1
    obtain ⟨r, q, hr, q0, q1, hl⟩ := spec_randomRegion.ev_j3 b hb x hx p h0 (by omega)
    exact ⟨r, q, Ev.step (fun k => by simp only [spec_randomRegion.l1]; rfl) (evNeg (by omega) hr), q0, by omega, hl⟩
  | succ n ih =>
    intro x p hx h0 h1
    obtain ⟨v, hv, v0, v1⟩ := spec_reader_pick.ev b hb p 8 h0 (by omega) (by omega)
    obtain ⟨u, hu, u0, u1⟩ := spec_reader_pick.ev b hb (p + 1) 8 (by omega) (by omega) (by omega)
    obtain ⟨r, q, hr, hc⟩ := spec_randomRegion.ev_l2 b n (p + 1 + 1) (fun r q => 0 ≤ q ∧ q ≤ p + 1 + 1 + 2 * n + 2 ∧ r.length ≤ 256) (fun x hx => ih x (p + 1 + 1) hx (by omega) (by omega)) (by omega) v u v0 (by omega) u0 (by omega) 12 0 x (by omega) rfl hx
    refine ⟨r, q, ?_, hc.1, by omega, hc.2.2⟩
    refine Ev.step (fun k => by simp only [spec_randomRegion.l1]; rfl) ?_
    refine evPos (by omega) (evBind hv (evBind hu ?_))
    exact hr
theorem spec_randomRegion.ev (b : List Int) (hb : CodeOk b) (p : Int) (h0 : 0 ≤ p) (h1 : p ≤ 80000) : ∃ r q, Ev (fun k => spec_randomRegion.f k b p) (r, q) ∧ 0 ≤ q ∧ q ≤ p + 100 ∧ r.length ≤ 256 := by
  obtain ⟨v, hv, v0, v1⟩ := spec_reader_pick.ev b hb p 4 h0 (by omega) (by omega)
  unfold spec_randomRegion.f
  by_cases e : v = 0
  · obtain ⟨u, hu, u0, u1⟩ := spec_reader_pick.ev b hb (p + 1) 8 (by omega) (by omega) (by omega)
    obtain ⟨t, ht, t0, t1⟩ := spec_reader_pick.ev b hb (p + 1 + 1) 8 (by omega) (by omega) (by omega)
    obtain ⟨s, hs, s0, s1⟩ := spec_reader_pick.ev b hb (p + 1 + 1 + 1) 5 (by omega) (by omega) (by omega)
    refine ⟨_, p + 1 + 1 + 1 + 1, evPos (by omega) (evFix rfl (evBind hv (evPos e (evBind hu (evBind ht (evBind hs (evBind (spec_DiscRegion.ev u t s) (evRet rfl)))))))), by omega, by omega, ?_⟩
    split
    · exact runsL_length _
    · simp
  by_cases e1 : v = 1
  · obtain ⟨u, hu, u0, u1⟩ := spec_reader_pick.ev b hb (p + 1) 12 (by omega) (by omega) (by omega)
    obtain ⟨n, rfl⟩ := Int.eq_ofNat_of_zero_le u0
    obtain ⟨r, q, hr, q0, q1, hl⟩ := spec_randomRegion.ev_l0 b hb n (List.replicate 256 false) (p + 1 + 1) (List.length_replicate ..) (by omega) (by omega)
    exact ⟨r, q, evPos (by omega) (evFix rfl (evBind hv (evNeg e (evPos e1 (evBind hu hr))))), q0, by omega, hl⟩
  · obtain ⟨u, hu, u0, u1⟩ := spec_reader_pick.ev b hb (p + 1) 5 (by omega) (by omega) (by omega)
    obtain ⟨n, rfl⟩ := Int.eq_ofNat_of_zero_le u0
    obtain ⟨r, q, hr, q0, q1, hl⟩ := spec_randomRegion.ev_l1 b hb n (List.replicate 256 false) (p + 1 + 1) (List.length_replicate ..) (by omega) (by omega)
    exact ⟨r, q, evPos (by omega) (evFix rfl (evBind hv (evNeg e (evNeg e1 (evBind hu hr))))), q0, by omega, hl⟩
theorem spec_anyRegion.ev (b : List Int) (hb : CodeOk b) (p : Int) (h0 : 0 ≤ p) (h1 : p ≤ 70000) : ∃ r q, Ev (fun k => spec_anyRegion.f k b p) (r, q) ∧ 0 ≤ q ∧ q ≤ p + 110 ∧ r.length ≤ 256 := by
  obtain ⟨r, q, hr, q0, q1, hl⟩ := spec_randomRegion.ev b hb p h0 (by omega)
  have hfalse : ∀ q', Ev (fun k => spec_anyRegion.j0 k r false b q') (r, q') := fun q' =>
    Ev.step (fun k => by simp only [spec_anyRegion.j0]; rfl) (evNeg (by first | exact not_false | simp) (evRet rfl))
  unfold spec_anyRegion.f
  by_cases hz : (r.length : Int) > 0
  · obtain ⟨v, hv, v0, v1⟩ := spec_reader_pick.ev b hb q 20 q0 (by omega) (by omega)
    by_cases e : v = 0
    · obtain ⟨u, hu, u0, u1⟩ := spec_reader_pick.ev b hb (q + 1) (r.length : Int) (by omega) (by omega) (by omega)
      obtain ⟨a, ha, _⟩ := spec_reader_one.ev b hb (q + 1 + 1) (by omega) (by omega) [(-1), 0, 15, 16] (by simp) (by simp)
      obtain ⟨c, hc, _⟩ := spec_reader_one.ev b hb (q + 1 + 1 + 1) (by omega) (by omega) [(-1), 0, 15, 16] (by simp) (by simp)
      obtain ⟨s, hs, _⟩ := spec_reader_one.ev b hb (q + 1 + 1 + 1 + 1) (by omega) (by omega) [0, 1, 16, 17] (by simp) (by simp)
      refine ⟨r.set u.toNat ⟨a, c, s⟩, q + 1 + 1 + 1 + 1 + 1, evBind hr (evPos hz (evBind hv ?_)), by omega, by omega, by simpa using hl⟩
      subst e
      refine Ev.step (fun k => by simp only [spec_anyRegion.j0]; rfl) ?_
      refine evPos (by rfl) (evBind hu (evBind ha (evBind hc (evBind hs ?_))))
      refine evPos u0 ?_
      exact evPos (by omega) (evRet rfl)
    · refine ⟨r, q + 1, evBind hr (evPos hz (evBind hv ?_)), by omega, by omega, hl⟩
      have : (v == 0) = false := by simpa using e
      simp only [this]
      exact hfalse _
  · exact ⟨r, q, evBind hr (evNeg hz (hfalse q)), q0, by omega, hl⟩
theorem firstF_iff (f : Nat → Bool) (p : Nat) : firstF f p = true ↔ f p = true ∧ ∀ q, q < p → f q = true → partF f q p = false := by
  unfold firstF
  rw [Bool.and_eq_true, Bool.not_eq_true', Bool.eq_false_iff]
  refine and_congr Iff.rfl ⟨fun h q hq hf => ?_, fun h hs => ?_⟩
  · rw [Bool.eq_false_iff]
    exact fun hp => h ((seenF_iff f p p).2 ⟨q, hq, hf, hp⟩)
  · obtain ⟨q, hq, hf, hp⟩ := (seenF_iff f p p).1 hs
    rw [h q hq hf] at hp
    cases hp
theorem partF_congr {f g : Nat → Bool} (h : ∀ i, i < 256 → f i = g i) (s : Nat) (p : Nat) (hp : p < 256) : partF f s p = partF g s p := by
  have key : ∀ n q, q < 256 → spreadN f s n q = spreadN g s n q := by
    intro n
    induction n with
    | zero => intro q _; rfl
    | succ n ih =>
      intro q hq
      show spreadF f (spreadN f s n) q = spreadF g (spreadN g s n) q
      rw [Bool.eq_iff_iff, spreadF_iff, spreadF_iff, ih q hq, h q hq]
      refine or_congr Iff.rfl (and_congr Iff.rfl ?_)
      exact ⟨fun ⟨r, hr, h1, h2⟩ => ⟨r, hr, by rw [← ih r hr]; exact h1, h2⟩, fun ⟨r, hr, h1, h2⟩ => ⟨r, hr, by rw [ih r hr]; exact h1, h2⟩⟩
  exact key 256 p hp
theorem firstF_congr {f g : Nat → Bool} (h : ∀ i, i < 256 → f i = g i) (p : Nat) (hp : p < 256) : firstF f p = firstF g p := by
  rw [Bool.eq_iff_iff, firstF_iff, firstF_iff, h p hp]
  refine and_congr Iff.rfl ⟨fun h1 q hq hf => ?_, fun h1 q hq hf => ?_⟩
  · rw [← partF_congr h q p hp]; exact h1 q hq (by rw [h q (by omega)]; exact hf)
  · rw [partF_congr h q p hp]; exact h1 q hq (by rw [← h q (by omega)]; exact hf)
theorem partsUpto_congr {f g : Nat → Bool} (h : ∀ i, i < 256 → f i = g i) (n : Nat) (hn : n ≤ 256) : partsUpto f n = partsUpto g n := by
  induction n with
  | zero => rw [partsUpto_zero, partsUpto_zero]
  | succ n ih =>
    have e := firstF_congr h n (by omega)
    cases hf : firstF f n with
    | true => rw [partsUpto_first f n hf, partsUpto_first g n (by rw [← e]; exact hf), ih (by omega), runsL_congr (fun i hi => partF_congr h n i hi)]
    | false => rw [partsUpto_not f n hf, partsUpto_not g n (by rw [← e]; exact hf), ih (by omega)]
def sumN (g : Nat → Nat) : Nat → Nat
  | 0 => 0
  | n + 1 => sumN g n + g n
theorem sumN_congr {g h : Nat → Nat} (n : Nat) (e : ∀ i, i < n → g i = h i) : sumN g n = sumN h n := by
  induction n with
  | zero => rfl
  | succ n ih =>
    show sumN g n + g n = sumN h n + h n
    rw [ih (fun i hi => e i (by omega)), e n (by omega)]
theorem sumN_zero (n : Nat) : sumN (fun _ => 0) n = 0 := by
  induction n with
  | zero => rfl
  | succ n ih => show sumN (fun _ => 0) n + 0 = 0; rw [ih]
/-- The places of an image, row by row. -/
theorem sumN_rows (g : Nat → Nat → Nat) (W H : Nat) (hW : 0 < W) : sumN (fun i => g (i % W) (i / W)) (W * H) = sumN (fun y => sumN (fun x => g x y) W) H := by
  have row : ∀ y n, n ≤ W → sumN (fun i => g (i % W) (i / W)) (W * y + n) = sumN (fun i => g (i % W) (i / W)) (W * y) + sumN (fun x => g x y) n := by
    intro y n
    induction n with
    | zero => intro _; rfl
    | succ n ih =>
      intro hn
      show sumN (fun i => g (i % W) (i / W)) (W * y + n) + g ((W * y + n) % W) ((W * y + n) / W) = sumN (fun i => g (i % W) (i / W)) (W * y) + (sumN (fun x => g x y) n + g n y)
      rw [ih (by omega), Nat.mul_add_mod, Nat.mod_eq_of_lt (by omega), Nat.mul_add_div hW, Nat.div_eq_of_lt (by omega), Nat.add_zero]
      omega
  induction H with
  | zero => rfl
  | succ H ih =>
    rw [Nat.mul_succ, row H W (Nat.le_refl _), ih]
    rfl

def inG (a b : Int) : Bool := decide ((0 ≤ a ∧ a < 16) ∧ 0 ≤ b ∧ b < 16)
/-- The pixels that stay in the grid. -/
def keepF (f : Nat → Bool) (x y : Int) (p : Nat) : Bool := f p && inG (((p % 16 : Nat) : Int) + x) (((p / 16 : Nat) : Int) + y)
theorem sumN_split (g : Nat → Nat) (m n : Nat) : sumN g (m + n) = sumN g m + sumN (fun i => g (m + i)) n := by
  induction n with
  | zero => rfl
  | succ n ih =>
    show sumN g (m + n) + g (m + n) = sumN g m + (sumN (fun i => g (m + i)) n + g (m + n))
    rw [ih]
    omega
theorem sumN_none (g : Nat → Nat) (n : Nat) (h : ∀ i, i < n → g i = 0) : sumN g n = 0 := by
  rw [sumN_congr n h, sumN_zero]
theorem shift_one (G : Int → Nat) (hG : ∀ i, i < 0 ∨ 16 ≤ i → G i = 0) (X : Int) (h0 : -16 ≤ X) (h1 : X ≤ 16) : sumN (fun i => G ((i : Int) - X)) 16 = sumN (fun j => if 0 ≤ (j : Int) + X ∧ (j : Int) + X < 16 then G (j : Int) else 0) 16 := by
  by_cases hX : 0 ≤ X
  · obtain ⟨n, rfl⟩ := Int.eq_ofNat_of_zero_le hX
    obtain ⟨m, hm⟩ : ∃ m, n + m = 16 := ⟨16 - n, by omega⟩
    have a1 := sumN_split (fun i => G ((i : Int) - (n : Int))) n m
    have a2 := sumN_split (fun j => if 0 ≤ (j : Int) + (n : Int) ∧ (j : Int) + (n : Int) < 16 then G (j : Int) else 0) m n
    rw [hm] at a1
    rw [Nat.add_comm m n, hm] at a2
    rw [a1, a2, sumN_none (fun i => G ((i : Int) - (n : Int))) n (fun i hi => hG _ (by omega)), sumN_none (fun i => if 0 ≤ ((m + i : Nat) : Int) + (n : Int) ∧ ((m + i : Nat) : Int) + (n : Int) < 16 then G ((m + i : Nat) : Int) else 0) n (fun i hi => if_neg (by omega)), Nat.zero_add, Nat.add_zero]
    refine sumN_congr m fun i hi => ?_
    rw [if_pos (by omega), show ((n + i : Nat) : Int) - (n : Int) = (i : Int) by omega]
  · obtain ⟨n, hn⟩ := Int.eq_ofNat_of_zero_le (show 0 ≤ -X by omega)
    obtain ⟨m, hm⟩ : ∃ m, n + m = 16 := ⟨16 - n, by omega⟩
    have a1 := sumN_split (fun i => G ((i : Int) - X)) m n
    have a2 := sumN_split (fun j => if 0 ≤ (j : Int) + X ∧ (j : Int) + X < 16 then G (j : Int) else 0) n m
    rw [Nat.add_comm m n, hm] at a1
    rw [hm] at a2
    rw [a1, a2, sumN_none (fun i => G (((m + i : Nat) : Int) - X)) n (fun i hi => hG _ (by omega)), sumN_none (fun j => if 0 ≤ (j : Int) + X ∧ (j : Int) + X < 16 then G (j : Int) else 0) n (fun i hi => if_neg (by omega)), Nat.zero_add, Nat.add_zero]
    refine sumN_congr m fun i hi => ?_
    rw [if_pos (by omega), show (i : Int) - X = ((n + i : Nat) : Int) by omega]
theorem cnt_sum (f : Nat → Bool) : cnt f 256 = sumN (fun y => sumN (fun x => if f (16 * y + x) = true then 1 else 0) 16) 16 := by
  have h : ∀ n, cnt f n = sumN (fun i => if f i = true then 1 else 0) n := by
    intro n
    induction n with
    | zero => rfl
    | succ n ih => rw [cnt_succ, ih]; rfl
  rw [h, ← sumN_rows (fun x y => if f (16 * y + x) = true then 1 else 0) 16 16 (by omega)]
  refine sumN_congr 256 fun i hi => ?_
  rw [show 16 * (i / 16) + i % 16 = i by omega]
theorem cnt_shift (f : Nat → Bool) (X Y : Int) (hx0 : -16 ≤ X) (hx1 : X ≤ 16) (hy0 : -16 ≤ Y) (hy1 : Y ≤ 16) : cnt (shiftF f X Y) 256 = cnt (keepF f X Y) 256 := by
  rw [cnt_sum, cnt_sum]
  have e1 : ∀ y, y < 16 → sumN (fun x => if shiftF f X Y (16 * y + x) = true then 1 else 0) 16 = sumN (fun j => if 0 ≤ (j : Int) + X ∧ (j : Int) + X < 16 then (if hasF f (j : Int) ((y : Int) - Y) = true then 1 else 0) else 0) 16 := by
    intro y hy
    rw [← shift_one (fun a => if hasF f a ((y : Int) - Y) = true then 1 else 0) (fun i hi => by rw [hasF_out _ _ _ (by omega)]; rfl) X hx0 hx1]
    refine sumN_congr 16 fun x hx => ?_
    unfold shiftF
    rw [show (16 * y + x) % 16 = x by omega, show (16 * y + x) / 16 = y by omega]
  rw [sumN_congr 16 e1]
  have e2 := shift_one (fun b => sumN (fun j => if 0 ≤ (j : Int) + X ∧ (j : Int) + X < 16 then (if hasF f (j : Int) b = true then 1 else 0) else 0) 16) (fun i hi => sumN_none _ _ fun j hj => by
    rw [hasF_out _ _ _ (by omega)]
    simp) Y hy0 hy1
  rw [e2]
  refine sumN_congr 16 fun y hy => ?_
  by_cases h : 0 ≤ (y : Int) + Y ∧ (y : Int) + Y < 16
  · rw [if_pos h]
    refine sumN_congr 16 fun x hx => ?_
    unfold keepF inG
    rw [hasF_in _ _ _ hx hy, show (16 * y + x) % 16 = x by omega, show (16 * y + x) / 16 = y by omega]
    by_cases h2 : 0 ≤ (x : Int) + X ∧ (x : Int) + X < 16
    · rw [if_pos h2, decide_eq_true (show (0 ≤ (x : Int) + X ∧ (x : Int) + X < 16) ∧ 0 ≤ (y : Int) + Y ∧ (y : Int) + Y < 16 from ⟨h2, h⟩), Bool.and_true]
    · rw [if_neg h2, decide_eq_false (fun hh => h2 hh.1), Bool.and_false]
      rfl
  · rw [if_neg h]
    refine (sumN_none _ _ fun x hx => ?_).symm
    unfold keepF inG
    rw [show (16 * y + x) % 16 = x by omega, show (16 * y + x) / 16 = y by omega, decide_eq_false (fun hh => h hh.2), Bool.and_false]
    rfl
theorem cnt_sub_eq {f g : Nat → Bool} (n : Nat) (h : ∀ i, i < n → f i = true → g i = true) (e : cnt f n = cnt g n) : ∀ i, i < n → f i = g i := by
  induction n with
  | zero => intro i hi; omega
  | succ n ih =>
    have h1 := cnt_mono n (fun i hi => h i (by omega))
    rw [cnt_succ, cnt_succ] at e
    have h2 := h n (by omega)
    have h3 : cnt f n = cnt g n := by
      cases hf : f n <;> cases hg : g n <;> simp [hf, hg] at e h2 <;> omega
    intro i hi
    by_cases hin : i = n
    · subst hin
      cases hf : f i <;> cases hg : g i <;> simp [hf, hg] at e h2 ⊢ <;> omega
    · exact ih (fun i hi => h i (by omega)) h3 i (by omega)

/-- Maps of pixels keep parts. -/
theorem part_map (f g : Nat → Bool) (φ : Nat → Nat) (hφ : ∀ p, p < 256 → f p = true → φ p < 256 ∧ g (φ p) = true) (hn : ∀ p q, p < 256 → q < 256 → f p = true → f q = true → nextTo p q → nextTo (φ p) (φ q)) (s : Nat) (hs : s < 256) (h0 : f s = true) (p : Nat) (hp : p < 256) (h : partF f s p = true) : partF g (φ s) (φ p) = true := by
  have h1 := partF_least f (fun q => f q && partF g (φ s) (φ q)) s (by rw [h0, partF_self]; rfl) (fun a b ha hb h2 h3 h4 => by
    simp only [Bool.and_eq_true] at h2 ⊢
    refine ⟨h4, partF_closed g (φ s) (hφ s hs h0).1 (φ a) (φ b) (hφ a ha h2.1).1 (hφ b hb h4).1 h2.2 (hn a b ha hb h2.1 h4 h3) (hφ b hb h4).2⟩) p hp h
  simp only [Bool.and_eq_true] at h1
  exact h1.2
/-- Where a pixel goes. -/
def shN (X Y : Int) (p : Nat) : Nat := ((p : Int) + 16 * Y + X).toNat
theorem shN_in (X Y : Int) (p : Nat) (hp : p < 256) (hi : (0 ≤ ((p % 16 : Nat) : Int) + X ∧ ((p % 16 : Nat) : Int) + X < 16) ∧ 0 ≤ ((p / 16 : Nat) : Int) + Y ∧ ((p / 16 : Nat) : Int) + Y < 16) :
    shN X Y p < 256 ∧ (shN X Y p : Int) = (p : Int) + 16 * Y + X ∧ ((shN X Y p % 16 : Nat) : Int) = ((p % 16 : Nat) : Int) + X ∧ ((shN X Y p / 16 : Nat) : Int) = ((p / 16 : Nat) : Int) + Y := by
  unfold shN
  omega
theorem shiftF_sh (f : Nat → Bool) (X Y : Int) (p : Nat) (hp : p < 256) (hi : (0 ≤ ((p % 16 : Nat) : Int) + X ∧ ((p % 16 : Nat) : Int) + X < 16) ∧ 0 ≤ ((p / 16 : Nat) : Int) + Y ∧ ((p / 16 : Nat) : Int) + Y < 16) : shiftF f X Y (shN X Y p) = f p := by
  obtain ⟨_, _, h1, h2⟩ := shN_in X Y p hp hi
  unfold shiftF
  rw [h1, h2, show ((p % 16 : Nat) : Int) + X - X = ((p % 16 : Nat) : Int) by omega, show ((p / 16 : Nat) : Int) + Y - Y = ((p / 16 : Nat) : Int) by omega, hasF_in _ _ _ (by omega) (by omega), show 16 * (p / 16) + p % 16 = p by omega]
theorem shiftF_from (f : Nat → Bool) (X Y : Int) (q : Nat) (hq : q < 256) (h : shiftF f X Y q = true) : shN (-X) (-Y) q < 256 ∧ f (shN (-X) (-Y) q) = true ∧ shN X Y (shN (-X) (-Y) q) = q ∧ ((0 ≤ ((q % 16 : Nat) : Int) + -X ∧ ((q % 16 : Nat) : Int) + -X < 16) ∧ 0 ≤ ((q / 16 : Nat) : Int) + -Y ∧ ((q / 16 : Nat) : Int) + -Y < 16) := by
  have hi : (0 ≤ ((q % 16 : Nat) : Int) + -X ∧ ((q % 16 : Nat) : Int) + -X < 16) ∧ 0 ≤ ((q / 16 : Nat) : Int) + -Y ∧ ((q / 16 : Nat) : Int) + -Y < 16 := by
    refine Decidable.byContradiction fun hn => ?_
    unfold shiftF at h
    rw [hasF_out _ _ _ (by omega)] at h
    cases h
  obtain ⟨h1, h2, h3, h4⟩ := shN_in (-X) (-Y) q hq hi
  refine ⟨h1, ?_, ?_, hi⟩
  · have h5 := shiftF_sh f X Y (shN (-X) (-Y) q) h1 (by rw [h3, h4]; omega)
    have e : shN X Y (shN (-X) (-Y) q) = q := by
      unfold shN at h2 ⊢
      omega
    rw [e, h] at h5
    exact h5.symm
  · unfold shN at h2 ⊢
    omega
/-- Nothing leaves the grid. -/
def staysF (f : Nat → Bool) (X Y : Int) : Prop := ∀ p, p < 256 → f p = true → (0 ≤ ((p % 16 : Nat) : Int) + X ∧ ((p % 16 : Nat) : Int) + X < 16) ∧ 0 ≤ ((p / 16 : Nat) : Int) + Y ∧ ((p / 16 : Nat) : Int) + Y < 16
theorem shN_next (X Y : Int) (p q : Nat) (hp : p < 256) (hq : q < 256) (h1 : (0 ≤ ((p % 16 : Nat) : Int) + X ∧ ((p % 16 : Nat) : Int) + X < 16) ∧ 0 ≤ ((p / 16 : Nat) : Int) + Y ∧ ((p / 16 : Nat) : Int) + Y < 16) (h2 : (0 ≤ ((q % 16 : Nat) : Int) + X ∧ ((q % 16 : Nat) : Int) + X < 16) ∧ 0 ≤ ((q / 16 : Nat) : Int) + Y ∧ ((q / 16 : Nat) : Int) + Y < 16) (h : nextTo p q) : nextTo (shN X Y p) (shN X Y q) := by
  obtain ⟨_, _, a1, a2⟩ := shN_in X Y p hp h1
  obtain ⟨_, _, b1, b2⟩ := shN_in X Y q hq h2
  unfold nextTo at h ⊢
  omega
theorem part_shift (f : Nat → Bool) (X Y : Int) (hk : staysF f X Y) (s p : Nat) (hs : s < 256) (hp : p < 256) (h0 : f s = true) (h1 : f p = true) : partF (shiftF f X Y) (shN X Y s) (shN X Y p) = partF f s p := by
  rw [Bool.eq_iff_iff]
  have gs : shiftF f X Y (shN X Y s) = true := by rw [shiftF_sh f X Y s hs (hk s hs h0)]; exact h0
  have gp : shiftF f X Y (shN X Y p) = true := by rw [shiftF_sh f X Y p hp (hk p hp h1)]; exact h1
  have ls := (shN_in X Y s hs (hk s hs h0)).1
  have lp := (shN_in X Y p hp (hk p hp h1)).1
  have es : shN (-X) (-Y) (shN X Y s) = s := by
    have := (shN_in X Y s hs (hk s hs h0)).2.1
    unfold shN at this ⊢
    omega
  have ep : shN (-X) (-Y) (shN X Y p) = p := by
    have := (shN_in X Y p hp (hk p hp h1)).2.1
    unfold shN at this ⊢
    omega
  constructor
  · intro h
    have := part_map (shiftF f X Y) f (shN (-X) (-Y)) (fun q hq hf => ⟨(shiftF_from f X Y q hq hf).1, (shiftF_from f X Y q hq hf).2.1⟩) (fun a b ha hb h2 h3 h4 => shN_next (-X) (-Y) a b ha hb (shiftF_from f X Y a ha h2).2.2.2 (shiftF_from f X Y b hb h3).2.2.2 h4) (shN X Y s) ls gs (shN X Y p) lp h
    rw [es, ep] at this
    exact this
  · intro h
    exact part_map f (shiftF f X Y) (shN X Y) (fun q hq hf => ⟨(shN_in X Y q hq (hk q hq hf)).1, by rw [shiftF_sh f X Y q hq (hk q hq hf)]; exact hf⟩) (fun a b ha hb h2 h3 h4 => shN_next X Y a b ha hb (hk a ha h2) (hk b hb h3) h4) s hs h0 p hp h
theorem first_shift (f : Nat → Bool) (X Y : Int) (hk : staysF f X Y) (q : Nat) (hq : q < 256) : firstF (shiftF f X Y) q = shiftF (firstF f) X Y q := by
  rw [Bool.eq_iff_iff]
  constructor
  · intro h
    obtain ⟨h1, h2⟩ := (firstF_iff _ q).1 h
    obtain ⟨lp, fp, e, hi⟩ := shiftF_from f X Y q hq h1
    have hip := hk _ lp fp
    have e1 := shiftF_sh (firstF f) X Y _ lp hip
    rw [e] at e1
    rw [e1]
    refine (firstF_iff f _).2 ⟨fp, fun r hr hf => ?_⟩
    have hr256 : r < 256 := by omega
    have a1 := shN_in X Y r hr256 (hk r hr256 hf)
    have a2 := shN_in (-X) (-Y) q hq hi
    have h3 := h2 (shN X Y r) (by omega) (by rw [shiftF_sh f X Y r hr256 (hk r hr256 hf)]; exact hf)
    rw [← part_shift f X Y hk r _ hr256 lp hf fp, e]
    exact h3
  · intro h
    obtain ⟨lp, fp, e, hi⟩ := shiftF_from (firstF f) X Y q hq h
    obtain ⟨g1, g2⟩ := (firstF_iff f _).1 fp
    have hip := hk _ lp g1
    have e1 := shiftF_sh f X Y _ lp hip
    rw [e, g1] at e1
    refine (firstF_iff _ q).2 ⟨e1, fun r hr hf => ?_⟩
    have hr256 : r < 256 := by omega
    obtain ⟨lr, fr, er, ir⟩ := shiftF_from f X Y r hr256 hf
    have a1 := shN_in (-X) (-Y) r hr256 ir
    have a2 := shN_in (-X) (-Y) q hq hi
    have h3 := g2 _ (by omega) fr
    rw [← part_shift f X Y hk _ _ lr lp fr g1, e, er] at h3
    exact h3
theorem parts_shift (f : Nat → Bool) (X Y : Int) (hk : staysF f X Y) (hx0 : -16 ≤ X) (hx1 : X ≤ 16) (hy0 : -16 ≤ Y) (hy1 : Y ≤ 16) : (partsUpto (shiftF f X Y) 256).length = (partsUpto f 256).length := by
  have e : ∀ g, (partsUpto g 256).length = cnt (firstF g) 256 := fun g => by
    unfold partsUpto cnt
    rw [List.length_map]
  rw [e, e, cnt_congr 256 (fun i hi => first_shift f X Y hk i hi), cnt_shift _ X Y hx0 hx1 hy0 hy1]
  refine cnt_congr 256 fun i hi => ?_
  unfold keepF inG
  cases h : firstF f i with
  | false => rfl
  | true => rw [decide_eq_true (hk i hi ((firstF_iff f i).1 h).1)]; rfl

theorem laws_equalRuns.refl_l0 (a : List S45) (hl : a.length ≤ 9223372036854775806) (d : Nat) : ∀ i, i ≤ a.length → a.length - i = d →
    Ev (fun k => laws_equalRuns.l0 k a a (i : Int)) true := by
  induction d with
  | zero =>
    intro i hi hd
    exact Ev.step (fun k => by simp only [laws_equalRuns.l0]; rfl) (evNeg (by omega) (evRet rfl))
  | succ d ih =>
    intro i hi hd
    have hw : wrap64 ((i : Int) + 1) = ((i + 1 : Nat) : Int) := wrapSucc i (by omega)
    have := ih (i + 1) (by omega) (by omega)
    refine Ev.step (f := fun k => laws_equalRuns.l0 k a a ((i + 1 : Nat) : Int)) (fun k => ?_) this
    simp only [laws_equalRuns.l0, hw]
    rw [if_pos (by omega), if_pos (by omega), if_pos (by omega)]
    simp
theorem laws_equalRuns.refl (a : List S45) (hl : a.length ≤ 9223372036854775806) : Ev (fun k => laws_equalRuns.f k a a) true := by
  unfold laws_equalRuns.f
  exact evPos rfl (laws_equalRuns.refl_l0 a hl a.length 0 (by omega) (by omega))

theorem rdRunM (l : List S45) (k : Nat) (h : k < l.length) : rd_T45 l (k : Int) = l[k] := by
  simp [rd_T45, List.getD_eq_getElem?_getD, List.getElem?_eq_getElem h]
theorem idxWrap (Y x : Nat) (hY : Y < 16) (hx : x ≤ 16) : wrap64 ((wrap64 ((Y : Int) * 16)) + x) = ((16 * Y + x : Nat) : Int) := by
  rw [wrapIn (x := (Y : Int) * 16) (by omega) (by omega), wrapIn (by omega) (by omega)]
  omega
theorem spec_gridOf.ev_l1 (l : List S45) (i : Nat) (hi : i < l.length) (r : S45) (hr : rd_T45 l (i : Int) = r) (R : List Bool) (g : Nat → Bool)
    (hR : Ev (fun k => spec_gridOf.l0 k l (gl fun j => g j || inRun r j) (wrap64 ((i : Int) + 1))) R) (Y F T : Nat) (hY : r.f0 = Y) (hF : r.f1 = F) (hT : r.f2 = T) (hY16 : Y < 16) (hT16 : T ≤ 16) (d : Nat) : ∀ x, F ≤ x → x ≤ T → T - x = d →
    Ev (fun k => spec_gridOf.l1 k l (gl fun j => g j || (decide (j / 16 = Y) && decide (F ≤ j % 16) && decide (j % 16 < x))) (i : Int) (x : Int)) R := by
  induction d with
  | zero =>
    intro x hx1 hx2 hd
    obtain rfl : x = T := by omega
    refine Ev.step (fun k => by simp only [spec_gridOf.l1, hr, hT]; rfl) (evPos (by omega) (evPos (by omega) (evNeg (by omega) ?_)))
    have e : gl (fun j => g j || (decide (j / 16 = Y) && decide (F ≤ j % 16) && decide (j % 16 < x))) = gl (fun j => g j || inRun r j) := gl_congr fun j hj => by
      congr 1
      rw [Bool.eq_iff_iff]
      unfold inRun
      simp only [Bool.and_eq_true, decide_eq_true_eq]
      rw [hY, hF, hT]
      omega
    rw [e]
    exact hR
  | succ d ih =>
    intro x hx1 hx2 hd
    have h2 := ih (x + 1) (by omega) (by omega) (by omega)
    refine Ev.step (fun k => by simp only [spec_gridOf.l1, hr, hY, hT, wrapSucc x (by omega), idxWrap Y x hY16 (by omega)]; rfl) (evPos (by omega) (evPos (by omega) (evPos (by omega) (evPos (by omega) (evPos (by rw [gl_length]; omega) ?_)))))
    rw [Int.toNat_natCast, gl_set]
    have e : gl (fun j => if j = 16 * Y + x then true else g j || (decide (j / 16 = Y) && decide (F ≤ j % 16) && decide (j % 16 < x))) = gl (fun j => g j || (decide (j / 16 = Y) && decide (F ≤ j % 16) && decide (j % 16 < x + 1))) := gl_congr fun j hj => by
      by_cases e : j = 16 * Y + x
      · rw [if_pos e, decide_eq_true (show j / 16 = Y by omega), decide_eq_true (show F ≤ j % 16 by omega), decide_eq_true (show j % 16 < x + 1 by omega)]
        simp
      · rw [if_neg e]
        congr 1
        rw [Bool.eq_iff_iff]
        simp only [Bool.and_eq_true, decide_eq_true_eq]
        omega
    rw [e]
    exact h2
theorem spec_gridOf.ev_l0 (l : List S45) (hok : RunsOk l) (hl : l.length ≤ 9223372036854775806) (d : Nat) : ∀ i, i ≤ l.length → l.length - i = d →
    Ev (fun k => spec_gridOf.l0 k l (gl (gridF (l.take i))) (i : Int)) (gl (gridF l)) := by
  induction d with
  | zero =>
    intro i hi hd
    refine Ev.step (fun k => by simp only [spec_gridOf.l0]; rfl) (evNeg (by omega) (evRet ?_))
    rw [List.take_of_length_le (by omega)]
  | succ d ih =>
    intro i hi hd
    have hlt : i < l.length := by omega
    obtain ⟨h0, h1, h2, h3, h4⟩ := hok l[i] (List.getElem_mem hlt)
    have hr : rd_T45 l (i : Int) = l[i] := rdRunM l i hlt
    have hF : l[i].f1 = ((l[i].f1.toNat : Nat) : Int) := by omega
    have hnext := ih (i + 1) (by omega) (by omega)
    have e0 : gl (gridF (l.take (i + 1))) = gl (fun j => gridF (l.take i) j || inRun l[i] j) := gl_congr fun j _ => by rw [take_snocN l i hlt, gridF_snoc]
    rw [e0, ← wrapSucc i (by omega)] at hnext
    generalize l[i] = r at *
    have h := spec_gridOf.ev_l1 l i hlt r hr (gl (gridF l)) (gridF (l.take i)) hnext r.f0.toNat r.f1.toNat r.f2.toNat (by omega) hF (by omega) (by omega) (by omega) _ r.f1.toNat (Nat.le_refl _) (by omega) rfl
    rw [← hF] at h
    refine Ev.step (fun k => by simp only [spec_gridOf.l0, hr]; rfl) (evPos (by omega) (evPos (by omega) ?_))
    have e : gl (fun j => gridF (l.take i) j || (decide (j / 16 = r.f0.toNat) && decide (r.f1.toNat ≤ j % 16) && decide (j % 16 < r.f1.toNat))) = gl (gridF (l.take i)) := gl_congr fun j hj => by
      by_cases e1 : r.f1.toNat ≤ j % 16
      · rw [decide_eq_false (show ¬ j % 16 < r.f1.toNat by omega)]
        simp
      · rw [decide_eq_false e1]
        simp
    rw [e] at h
    exact h
theorem spec_gridOf.ev (l : List S45) (hok : RunsOk l) (hl : l.length ≤ 9223372036854775806) : Ev (fun k => spec_gridOf.f k l) (gl (gridF l)) := by
  have h := spec_gridOf.ev_l0 l hok hl l.length 0 (by omega) (by omega)
  unfold spec_gridOf.f
  refine evPos (by omega) ?_
  rw [gl_false]
  rw [gl_congr (g := fun _ => false) (fun i hi => by rw [List.take_zero, gridF_nil])] at h
  exact h

theorem spec_validRuns.ev_l0 (l : List S45) (hl : l.length ≤ 9223372036854775807) (d : Nat) : ∀ i, i ≤ l.length → l.length - i = d →
    Ev (fun k => spec_validRuns.l0 k l (i : Int)) (decide (∀ j, j < l.length → i ≤ j → okAt l j)) := by
  induction d with
  | zero =>
    intro i hi hd
    refine Ev.step (fun k => by simp only [spec_validRuns.l0]; rfl) (evNeg (by omega) (evRet ?_))
    rw [eq_comm, decide_eq_true_eq]
    intro j h1 h2
    omega
  | succ d ih =>
    intro i hi hd
    have hlt : i < l.length := by omega
    have hnot : ¬ okAt l i → decide (∀ j, j < l.length → i ≤ j → okAt l j) = false := fun h => by
      rw [decide_eq_false_iff_not]
      exact fun hh => h (hh i hlt (Nat.le_refl _))
    have hyes : okAt l i → decide (∀ j, j < l.length → i ≤ j → okAt l j) = decide (∀ j, j < l.length → i + 1 ≤ j → okAt l j) := fun h => by
      refine decide_eq_decide.mpr ⟨fun hh j h1 h2 => hh j h1 (by omega), fun hh j h1 h2 => ?_⟩
      rcases Nat.eq_or_lt_of_le h2 with h3 | h3
      · subst h3
        exact h
      · exact hh j h1 h3
    have hbad : ∀ a b c, ¬ okAt l i → Ev (fun k => spec_validRuns.j1 k l (i : Int) true a b c) (decide (∀ j, j < l.length → i ≤ j → okAt l j)) := fun a b c h =>
      Ev.step (fun k => by simp only [spec_validRuns.j1]; rfl) (evPos (by trivial) (evRet (hnot h).symm))
    have hw : wrap64 ((i : Int) + 1) = ((i + 1 : Nat) : Int) := wrapSucc i (by omega)
    refine Ev.step (fun k => by simp only [spec_validRuns.l0]; rfl) ?_
    refine evPos (by omega) (evPos (by omega) (evFix (inRange_val _ _ _) (evIf (fun h1 => evFix (inRange_val _ _ _) (evIf (fun h2 => evFix (inRange_val _ _ _) ?_) (fun h2 => hbad _ _ _ fun h => ?_))) (fun h1 => hbad _ _ _ fun h => ?_))))
    · rw [decide_eq_true_eq] at h1 h2
      rw [wrapIn (x := (rd_T45 l (i : Int)).f1 + 1) (by omega) (by omega)]
      by_cases h3 : (rd_T45 l (i : Int)).f1 + 1 ≤ (rd_T45 l (i : Int)).f2 ∧ (rd_T45 l (i : Int)).f2 ≤ 16
      · rw [decide_eq_true h3]
        have hr : okRun (rd_T45 l (i : Int)) := by unfold okRun; omega
        refine Ev.step (fun k => by simp only [spec_validRuns.j1, hw]; rfl) ?_
        refine evNeg (by first | exact not_false | simp) (evIf (fun h6 => ?_) (fun h6 => ?_))
        · have hw2 : wrap64 ((i : Int) - 1) = ((i - 1 : Nat) : Int) := by unfold wrap64; omega
          rw [hw2]
          refine evPos (by omega) (evPos (by omega) (evIf (fun h7 => evRet (hnot fun h => ?_).symm) (fun h7 => evIf (fun h8 => evIf (fun h9 => evRet (hnot fun h => ?_).symm) (fun h9 => ?_)) (fun h8 => ?_))))
          · have := h.2
            unfold before at this
            omega
          · have := h.2
            unfold before at this
            omega
          · rw [hyes ⟨hr, .inr (by unfold before; omega)⟩]
            exact ih (i + 1) (by omega) (by omega)
          · rw [hyes ⟨hr, .inr (by unfold before; omega)⟩]
            exact ih (i + 1) (by omega) (by omega)
        · rw [hyes ⟨hr, .inl (by omega)⟩]
          exact ih (i + 1) (by omega) (by omega)
      · rw [decide_eq_false h3]
        refine hbad _ _ _ fun h => h3 ?_
        have := h.1
        unfold okRun at this
        omega
    · rw [decide_eq_true_eq] at h2
      have := h.1
      unfold okRun at this
      omega
    · rw [decide_eq_true_eq] at h1
      have := h.1
      unfold okRun at this
      omega
theorem spec_validRuns.ev (l : List S45) (hl : l.length ≤ 9223372036854775807) : Ev (fun k => spec_validRuns.f k l) (decide (Valid l)) := by
  have h := spec_validRuns.ev_l0 l hl l.length 0 (by omega) (by omega)
  unfold spec_validRuns.f
  have e : decide (∀ j, j < l.length → 0 ≤ j → okAt l j) = decide (Valid l) := decide_eq_decide.mpr (by rw [valid_iff]; exact ⟨fun h j hj => h j hj (Nat.zero_le _), fun h j hj _ => h j hj⟩)
  rw [e] at h
  exact h

theorem spec_ShiftRegion.ev_l0 (f : Nat → Bool) (x y : Int) (hx0 : -16 ≤ x) (hx1 : x ≤ 16) (hy0 : -16 ≤ y) (hy1 : y ≤ 16) (d : Nat) : ∀ p, p ≤ 256 → 256 - p = d →
    Ev (fun k => spec_ShiftRegion.l0 k x y (gl fun j => shiftF f x y j && decide (16 * (((j / 16 : Nat) : Int) - y) + (((j % 16 : Nat) : Int) - x) < (p : Int))) (gl f) (p : Int)) (runsL (shiftF f x y)) := by
  induction d with
  | zero =>
    intro p hp hd
    obtain rfl : p = 256 := by omega
    refine Ev.step (fun k => by simp only [spec_ShiftRegion.l0]; rfl) (evNeg (by rw [gl_length]; omega) ?_)
    rw [gl_congr (f := fun j => shiftF f x y j && decide (16 * (((j / 16 : Nat) : Int) - y) + (((j % 16 : Nat) : Int) - x) < ((256 : Nat) : Int))) (g := shiftF f x y) (fun i hi => ?_)]
    · exact evBind (spec_runsOf.ev _) (evRet rfl)
    · cases hs : shiftF f x y i with
      | false => rfl
      | true =>
        rw [Bool.true_and, decide_eq_true_eq]
        refine Decidable.byContradiction fun hn => ?_
        unfold shiftF at hs
        rw [hasF_out _ _ _ (by omega)] at hs
        cases hs
  | succ d ih =>
    intro p hp hd
    have hnext := ih (p + 1) (by omega) (by omega)
    have r0 : rdOf false (gl f) (p : Int) = f p := gl_rd f p (by omega)
    have hsrc : ∀ j, shiftF f x y j = true → 16 * (((j / 16 : Nat) : Int) - y) + (((j % 16 : Nat) : Int) - x) = (p : Int) → ((j % 16 : Nat) : Int) - x = ((p % 16 : Nat) : Int) ∧ ((j / 16 : Nat) : Int) - y = ((p / 16 : Nat) : Int) ∧ f p = true := fun j hs he => by
      unfold shiftF at hs
      by_cases hin : 0 ≤ ((j % 16 : Nat) : Int) - x ∧ ((j % 16 : Nat) : Int) - x < 16 ∧ 0 ≤ ((j / 16 : Nat) : Int) - y ∧ ((j / 16 : Nat) : Int) - y < 16
      · obtain ⟨u, hu⟩ := Int.eq_ofNat_of_zero_le hin.1
        obtain ⟨v, hv⟩ := Int.eq_ofNat_of_zero_le hin.2.2.1
        rw [hu, hv, hasF_in _ _ _ (by omega) (by omega), show 16 * v + u = p by omega] at hs
        exact ⟨by omega, by omega, hs⟩
      · rw [hasF_out _ _ _ (by omega)] at hs
        cases hs
    have same : (∀ j, j < 256 → shiftF f x y j = true → 16 * (((j / 16 : Nat) : Int) - y) + (((j % 16 : Nat) : Int) - x) ≠ (p : Int)) → Ev (fun k => spec_ShiftRegion.l0 k x y (gl fun j => shiftF f x y j && decide (16 * (((j / 16 : Nat) : Int) - y) + (((j % 16 : Nat) : Int) - x) < (p : Int))) (gl f) ((p + 1 : Nat) : Int)) (runsL (shiftF f x y)) := fun hno => by
      rw [gl_congr (f := fun j => shiftF f x y j && decide (16 * (((j / 16 : Nat) : Int) - y) + (((j % 16 : Nat) : Int) - x) < (p : Int))) (g := fun j => shiftF f x y j && decide (16 * (((j / 16 : Nat) : Int) - y) + (((j % 16 : Nat) : Int) - x) < ((p + 1 : Nat) : Int))) (fun i hi => ?_)]
      · exact hnext
      · cases hs : shiftF f x y i with
        | false => rfl
        | true =>
          rw [Bool.true_and, Bool.true_and]
          have := hno i hi hs
          exact decide_eq_decide.mpr (by omega)
    have ht : Int.tmod (p : Int) 16 = ((p % 16 : Nat) : Int) := by rw [Int.tmod_eq_emod_of_nonneg (by omega)]; omega
    have hq : wrap64 (Int.tdiv (p : Int) 16) = ((p / 16 : Nat) : Int) := by rw [Int.tdiv_eq_ediv_of_nonneg (by omega), wrapIn (by omega) (by omega)]; omega
    refine Ev.step (fun k => by simp only [spec_ShiftRegion.l0, ht, hq, r0, wrapIn (x := ((p % 16 : Nat) : Int) + x) (by omega) (by omega), wrapIn (x := ((p / 16 : Nat) : Int) + y) (by omega) (by omega), wrapIn (x := (((p / 16 : Nat) : Int) + y) * 16) (by omega) (by omega), wrapIn (x := (((p / 16 : Nat) : Int) + y) * 16 + (((p % 16 : Nat) : Int) + x)) (by omega) (by omega), wrapSucc p (by omega)]; rfl) ?_
    clear ht hq
    refine evPos (by rw [gl_length]; omega) (evPos (by omega) (evIf (fun hf => ?_) (fun hf => ?_)))
    · refine evFix (inRange_val _ 0 15) (evIf (fun h1 => ?_) (fun h1 => ?_))
      · rw [decide_eq_true_eq] at h1
        refine evFix (inRange_val _ 0 15) (evIf (fun h2 => ?_) (fun h2 => ?_))
        · rw [decide_eq_true_eq] at h2
          refine evPos (by omega) (evPos (by rw [gl_length]; omega) ?_)
          obtain ⟨u, hu⟩ := Int.eq_ofNat_of_zero_le h1.1
          obtain ⟨v, hv⟩ := Int.eq_ofNat_of_zero_le h2.1
          have hidx : ((((p / 16 : Nat) : Int) + y) * 16 + (((p % 16 : Nat) : Int) + x)).toNat = 16 * v + u := by omega
          rw [hidx, gl_set, gl_congr (f := fun j => if j = 16 * v + u then true else shiftF f x y j && decide (16 * (((j / 16 : Nat) : Int) - y) + (((j % 16 : Nat) : Int) - x) < (p : Int))) (g := fun j => shiftF f x y j && decide (16 * (((j / 16 : Nat) : Int) - y) + (((j % 16 : Nat) : Int) - x) < ((p + 1 : Nat) : Int))) (fun i hi => ?_)]
          · exact hnext
          · by_cases e : i = 16 * v + u
            · rw [if_pos e]
              have hs : shiftF f x y i = true := by
                unfold shiftF
                rw [show ((i % 16 : Nat) : Int) - x = ((p % 16 : Nat) : Int) by omega, show ((i / 16 : Nat) : Int) - y = ((p / 16 : Nat) : Int) by omega, hasF_in _ _ _ (by omega) (by omega), show 16 * (p / 16) + p % 16 = p by omega, hf]
              rw [hs, Bool.true_and, eq_comm, decide_eq_true_eq]
              omega
            · rw [if_neg e]
              cases hs : shiftF f x y i with
              | false => rfl
              | true =>
                rw [Bool.true_and, Bool.true_and]
                refine decide_eq_decide.mpr ⟨fun h => by omega, fun h => ?_⟩
                refine Decidable.byContradiction fun hn => e ?_
                have := hsrc i hs (by omega)
                omega
        · rw [decide_eq_true_eq] at h2
          refine same fun j hj hs he => h2 ?_
          have := hsrc j hs he
          omega
      · rw [decide_eq_true_eq] at h1
        refine same fun j hj hs he => h1 ?_
        have := hsrc j hs he
        omega
    · exact same fun j hj hs he => hf (hsrc j hs he).2.2
theorem spec_ShiftRegion.ev (l : List S45) (hl : l.length ≤ 9223372036854775806) (x y : Int) : Ev (fun k => spec_ShiftRegion.f k l x y) (if shiftOk l x y then runsL (shiftF (gridF l) x y) else []) := by
  have hno : ¬ shiftOk l x y → ∀ g, Ev (fun k => spec_ShiftRegion.j0 k l x y g true) (if shiftOk l x y then runsL (shiftF (gridF l) x y) else []) := fun h g => by
    rw [if_neg h]
    exact Ev.step (fun k => by simp only [spec_ShiftRegion.j0]; rfl) (evPos (by trivial) (evRet rfl))
  unfold spec_ShiftRegion.f
  refine evPos (by omega) (evFix rfl (evBind (spec_validRuns.ev l (by omega)) (evIf (fun h => ?_) (fun h => ?_))))
  · rw [decide_eq_true_eq] at h
    refine evFix (inRange_val x (-16) 16) (evIf (fun h1 => ?_) (fun h1 => ?_))
    · rw [decide_eq_true_eq] at h1
      refine evFix (inRange_val y (-16) 16) ?_
      by_cases h2 : -16 ≤ y ∧ y ≤ 16
      · rw [decide_eq_true h2, if_pos ⟨h, h1.1, h1.2, h2.1, h2.2⟩]
        refine Ev.step (fun k => by simp only [spec_ShiftRegion.j0]; rfl) ?_
        refine evNeg (by simp) (evBind (spec_gridOf.ev l h.1 hl) ?_)
        have := spec_ShiftRegion.ev_l0 (gridF l) x y h1.1 h1.2 h2.1 h2.2 256 0 (by omega) (by omega)
        rw [gl_congr (g := fun _ => false) (fun i hi => ?_)] at this
        · rw [gl_false]
          exact this
        · cases hs : shiftF (gridF l) x y i with
          | false => rfl
          | true =>
            rw [Bool.true_and, decide_eq_false_iff_not]
            intro hn
            unfold shiftF at hs
            rw [hasF_out _ _ _ (by omega)] at hs
            cases hs
      · rw [decide_eq_false h2]
        exact hno (fun hk => h2 ⟨hk.2.2.2.1, hk.2.2.2.2⟩) _
    · rw [decide_eq_true_eq] at h1
      exact hno (fun hk => h1 ⟨hk.2.1, hk.2.2.1⟩) _
  · rw [decide_eq_true_eq] at h
    exact hno (fun hk => h hk.1) _

theorem spec_DrawShiftRegion.ev (l : List Int) (hw : ∀ x ∈ l, (Lit.int .u8 x).wf = true) : ∃ a x y, Ev (fun n => spec_DrawShiftRegion.f n l) (a, x, y) ∧ a.length ≤ 256 := by
  obtain ⟨s, hb, h⟩ := spec_newReader.ev l hw
  obtain ⟨a, q, ha, q0, q1, hla⟩ := spec_anyRegion.ev s h 0 (by omega) (by omega)
  obtain ⟨x, hx, _⟩ := spec_reader_one.ev s h q q0 (by omega) [0, 1, (-1), 3, (-5), 16, 17] (by simp) (by simp)
  obtain ⟨y, hy, _⟩ := spec_reader_one.ev s h (q + 1) (by omega) (by omega) [0, 1, (-1), 2, (-16), (-17)] (by simp) (by simp)
  exact ⟨a, x, y, by unfold spec_DrawShiftRegion.f; exact evFix hb (evBind ha (evBind hx (evBind hy (evRet rfl)))), hla⟩
theorem FnShiftRegionShape : laws_FnShiftRegionShape.Pure := by
  intro l _ _ hw
  refine Ev.rounds ?_
  obtain ⟨a, x, y, hd, hla⟩ := spec_DrawShiftRegion.ev l hw
  have hs := spec_ShiftRegion.ev a (by omega) x y
  have hi : impl_ShiftRegion.f a x y = some (if shiftOk a x y then runsL (shiftF (gridF a) x y) else []) := rfl
  have hlen : (if shiftOk a x y then runsL (shiftF (gridF a) x y) else []).length ≤ 256 := by
    split
    · exact runsL_length _
    · simp
  have heq := laws_equalRuns.refl (if shiftOk a x y then runsL (shiftF (gridF a) x y) else []) (by omega)
  have hval : Ev (fun k => impl_ValidRegion.f k a) (decide (Valid a)) := by
    unfold impl_ValidRegion.f
    exact evBind (impl_isRegion.ev a (by omega)) (evRet rfl)
  have hno : Ev (fun k => laws_FnShiftRegionShape.j0 k a x y (if shiftOk a x y then runsL (shiftF (gridF a) x y) else []) true) true :=
    Ev.step (fun k => by simp only [laws_FnShiftRegionShape.j0]; rfl) (evPos (by trivial) (evBind hs (evBind heq (evRet rfl))))
  unfold laws_FnShiftRegionShape.f
  refine evIf (fun _ => evRet rfl) (fun _ => evBind hd (evFix hi (evBind hs (evBind heq (evPos rfl (evBind hval (evIf (fun hv => ?_) (fun _ => hno))))))))
  rw [decide_eq_true_eq] at hv
  have a2 := impl_AreaOf.ev a (by omega)
  rw [if_pos hv, areaL_cnt a hv] at a2
  by_cases hk : shiftOk a x y
  · rw [if_pos hk] at hno ⊢
    obtain ⟨_, h0, h1, h2, h3⟩ := hk
    have lens := runsL_length (shiftF (gridF a) x y)
    have a1 := impl_AreaOf.ev (runsL (shiftF (gridF a) x y)) (by omega)
    rw [if_pos (runsL_valid _), areaL_cnt _ (runsL_valid _), show cnt (gridF (runsL (shiftF (gridF a) x y))) 256 = cnt (keepF (gridF a) x y) 256 from (cnt_congr 256 (fun i hi => gridF_runsL _ i hi)).trans (cnt_shift _ x y h0 h1 h2 h3)] at a1
    refine evBind a1 (evBind a2 ?_)
    cases hc : (((cnt (keepF (gridF a) x y) 256 : Nat) : Int) != ((cnt (gridF a) 256 : Nat) : Int)) with
    | true => exact hno
    | false =>
      have he : cnt (keepF (gridF a) x y) 256 = cnt (gridF a) 256 := by
        simp only [bne_eq_false_iff_eq] at hc
        omega
      have hall := cnt_sub_eq 256 (fun i hi h => by unfold keepF at h; rw [Bool.and_eq_true] at h; exact h.1) he
      have hst : staysF (gridF a) x y := fun p hp hf => by
        have h := hall p hp
        unfold keepF inG at h
        rw [hf, Bool.true_and, decide_eq_true_eq] at h
        exact h
      have p1 : impl_PartsOf.f (runsL (shiftF (gridF a) x y)) = some (partsUpto (shiftF (gridF a) x y) 256) := by
        unfold impl_PartsOf.f
        rw [if_pos (runsL_valid _), partsUpto_congr (fun q hq => gridF_runsL _ q hq) 256 (Nat.le_refl _)]
      have p2 : impl_PartsOf.f a = some (partsUpto (gridF a) 256) := by
        unfold impl_PartsOf.f
        rw [if_pos hv]
      refine Ev.step (fun k => by simp only [laws_FnShiftRegionShape.j0]; rfl) (evNeg (by first | exact not_false | simp) ?_)
      refine evFix p1 ?_
      refine evFix p2 ?_
      refine evRet ?_
      rw [parts_shift (gridF a) x y hst h0 h1 h2 h3]
      exact beq_self_eq_true _
  · rw [if_neg hk] at hno ⊢
    have a1 := impl_AreaOf.ev ([] : List S45) (by simp)
    rw [if_pos ⟨by simp, List.Pairwise.nil⟩] at a1
    refine evBind a1 (evBind a2 ?_)
    cases hc : (areaL ([] : List S45) != ((cnt (gridF a) 256 : Nat) : Int)) with
    | true => exact hno
    | false =>
      have he : cnt (gridF a) 256 = 0 := by
        simp only [bne_eq_false_iff_eq] at hc
        have h0 : areaL ([] : List S45) = 0 := rfl
        omega
      have hall := cnt_sub_eq (f := fun _ => false) (g := gridF a) 256 (fun _ _ h => by cases h) (by rw [he]; decide)
      have hnil : a = [] := by
        rw [← runsL_gridF a hv, runsL_nil_iff]
        exact fun i hi => (hall i hi).symm
      subst hnil
      refine Ev.step (fun k => by simp only [laws_FnShiftRegionShape.j0]; rfl) (evNeg (by first | exact not_false | simp) ?_)
      refine evFix rfl ?_
      refine evFix rfl ?_
      refine evRet ?_
      exact beq_self_eq_true _

end Go.Proofs.Ytceoecmjccakgaa.Pure
