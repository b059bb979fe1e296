/- FnDiscRegion answers true for every code: a disc has its center, is connected, and lies in the disc of the next radius. No condition. -/
import Derived.Test.YtceoecmjccakgaaPrintHimplCombineRegions
import Derived.Test.YtceoecmjccakgaaPrintHimplPartsOf
import Derived.Test.YtceoecmjccakgaaPrintHx0
import Derived.Test.YtceoecmjccakgaaPrintHx2
import Derived.Test.YtceoecmjccakgaaPrintLFnDiscRegion
import Derived.Test.YtceoecmjccakgaaPrintR0x0
import Derived.Test.YtceoecmjccakgaaPrintR1x0
import Derived.Test.YtceoecmjccakgaaPrintR1x1
import Derived.Test.YtceoecmjccakgaaPrintR1x9
import Derived.Test.YtceoecmjccakgaaPrintR3x0
namespace Go.Proofs.Ytceoecmjccakgaa.Pure
open Go.RowKit Go.Proofs.Ytceoecmjccakgaa.Print Go.Proofs.YtceoecmjccakgaaW.PrintWords Go.Proofs.YtceoecmjccakgaaW.PrintLast Go.Proofs.YtceoecmjccakgaaW.PrintMore
set_option linter.unusedVariables false
set_option linter.unusedSimpArgs false
def gl (f : Nat → Bool) : List Bool := (List.range 256).map f
theorem gl_length (f : Nat → Bool) : (gl f).length = 256 := by simp [gl]
theorem gl_rd (f : Nat → Bool) (i : Nat) (h : i < 256) : rdOf false (gl f) (i : Int) = f i := by
  simp [rdOf, gl, List.getD_eq_getElem?_getD, List.getElem?_map, List.getElem?_range h]
theorem gl_get (f : Nat → Bool) (j : Nat) (h : j < (gl f).length) : (gl f)[j] = f j := by simp [gl]
theorem gl_set (f : Nat → Bool) (i : Nat) (b : Bool) : (gl f).set i b = gl (fun j => if j = i then b else f j) := by
  apply List.ext_getElem
  · simp [gl]
  · intro j h1 h2
    simp only [List.getElem_set, gl, List.getElem_map, List.getElem_range]
    by_cases h : i = j
    · subst h; simp
    · rw [if_neg h, if_neg (fun e => h e.symm)]
theorem gl_congr {f g : Nat → Bool} (h : ∀ i, i < 256 → f i = g i) : gl f = gl g := by
  unfold gl
  exact List.map_congr_left fun i hi => h i (by simpa using hi)
theorem gl_false : List.replicate 256 false = gl (fun _ => false) := by
  apply List.ext_getElem
  · rw [List.length_replicate, gl_length]
  · intro j h1 h2
    rw [List.getElem_replicate, gl_get]
theorem runAt_congr {f g : Nat → Bool} (h : ∀ i, i < 256 → f i = g i) (i : Nat) (hi : i < 256) : runAt f i = runAt g i := by
  have he : ∀ y, y < 16 → ∀ d, d ≤ 16 → endAt f y d = endAt g y d := by
    intro y hy d
    induction d with
    | zero => intro _; rfl
    | succ d ih =>
      intro hd
      simp only [endAt]
      rw [h (16 * y + (15 - d)) (by omega), ih (by omega)]
  have hs : startB f i = startB g i := by
    unfold startB
    rw [h i hi, h (i - 1) (by omega)]
  unfold runAt endOf
  rw [hs, he (i / 16) (by omega) _ (by omega)]
theorem runsL_congr {f g : Nat → Bool} (h : ∀ i, i < 256 → f i = g i) : runsL f = runsL g := by
  unfold runsL runsUpto
  have : ∀ l : List Nat, (∀ i ∈ l, i < 256) → l.filterMap (runAt f) = l.filterMap (runAt g) := by
    intro l
    induction l with
    | nil => intro _; rfl
    | cons a t ih =>
      intro hl
      rw [List.filterMap_cons, List.filterMap_cons, runAt_congr h a (hl a (by simp)), ih (fun i hi => hl i (by simp [hi]))]
  exact this _ (fun i hi => by simpa using hi)

theorem start_of (f : Nat → Bool) (y : Nat) (c : Nat) (hc : c < 16) (hf : f (16 * y + c) = true) : ∃ a, a ≤ c ∧ startB f (16 * y + a) = true ∧ ∀ i, a ≤ i → i ≤ c → f (16 * y + i) = true := by
  induction c with
  | zero =>
    refine ⟨0, Nat.le_refl _, ?_, fun i _ h => ?_⟩
    · unfold startB
      rw [hf, decide_eq_true (show (16 * y + 0) % 16 = 0 by omega)]
      rfl
    · obtain rfl : i = 0 := by omega
      exact hf
  | succ c ih =>
    cases hp : f (16 * y + c) with
    | true =>
      obtain ⟨a, h1, h2, h3⟩ := ih (by omega) hp
      refine ⟨a, by omega, h2, fun i h4 h5 => ?_⟩
      rcases Nat.lt_or_ge c i with h | h
      · obtain rfl : i = c + 1 := by omega
        exact hf
      · exact h3 i h4 h
    | false =>
      refine ⟨c + 1, Nat.le_refl _, ?_, fun i h4 h5 => ?_⟩
      · unfold startB
        rw [hf, show 16 * y + (c + 1) - 1 = 16 * y + c by omega, hp]
        simp
      · obtain rfl : i = c + 1 := by omega
        exact hf
theorem mem_runsL (f : Nat → Bool) (r : S45) : r ∈ runsL f ↔ ∃ s, s < 256 ∧ startB f s = true ∧ r = ⟨(s / 16 : Nat), (s % 16 : Nat), (endOf f (s / 16) (s % 16) : Nat)⟩ := by
  unfold runsL runsUpto
  rw [List.mem_filterMap]
  constructor
  · rintro ⟨s, hs, h⟩
    unfold runAt at h
    split at h
    · rename_i hst
      exact ⟨s, by simpa using hs, hst, (Option.some.inj h).symm⟩
    · cases h
  · rintro ⟨s, hs, hst, rfl⟩
    exact ⟨s, by simpa using hs, by unfold runAt; rw [if_pos hst]⟩
theorem start_true {f : Nat → Bool} {s : Nat} (h : startB f s = true) : f s = true ∧ (s % 16 = 0 ∨ f (s - 1) = false) := by
  unfold startB at h
  simp only [Bool.and_eq_true, Bool.or_eq_true, decide_eq_true_eq, Bool.not_eq_true'] at h
  exact h
theorem gridF_runsL (f : Nat → Bool) (i : Nat) (hi : i < 256) : gridF (runsL f) i = f i := by
  rw [Bool.eq_iff_iff]
  unfold gridF
  rw [List.any_eq_true]
  constructor
  · rintro ⟨r, hr, hin⟩
    obtain ⟨s, hs, hst, rfl⟩ := (mem_runsL f r).1 hr
    unfold inRun at hin
    simp only [Bool.and_eq_true, decide_eq_true_eq] at hin
    obtain ⟨⟨h1, h2⟩, h3⟩ := hin
    have := (endOf_facts f (s / 16) (16 - s % 16) (s % 16) (by omega) rfl).2.2.1 (i % 16) (by omega) (by omega)
    rwa [show 16 * (s / 16) + i % 16 = i by omega] at this
  · intro hf
    obtain ⟨a, h1, h2, h3⟩ := start_of f (i / 16) (i % 16) (by omega) (by rwa [show 16 * (i / 16) + i % 16 = i by omega])
    refine ⟨⟨((16 * (i / 16) + a) / 16 : Nat), ((16 * (i / 16) + a) % 16 : Nat), (endOf f ((16 * (i / 16) + a) / 16) ((16 * (i / 16) + a) % 16) : Nat)⟩, (mem_runsL f _).2 ⟨_, by omega, h2, rfl⟩, ?_⟩
    have e1 : (16 * (i / 16) + a) / 16 = i / 16 := by omega
    have e2 : (16 * (i / 16) + a) % 16 = a := by omega
    rw [e1, e2]
    have hlt : i % 16 < endOf f (i / 16) a := by
      obtain ⟨g1, g2, g3, g4⟩ := endOf_facts f (i / 16) (16 - a) a (by omega) rfl
      rcases Nat.lt_or_ge (i % 16) (endOf f (i / 16) a) with h | h
      · exact h
      · have := h3 (endOf f (i / 16) a) g1 h
        rw [g4 (by omega)] at this
        cases this
    unfold inRun
    simp only [Bool.and_eq_true, decide_eq_true_eq]
    exact ⟨⟨by trivial, by omega⟩, by omega⟩
theorem runsL_valid (f : Nat → Bool) : Valid (runsL f) := by
  constructor
  · intro r hr
    obtain ⟨s, hs, hst, rfl⟩ := (mem_runsL f r).1 hr
    have h := start_true hst
    have hgt := endOf_gt f (s / 16) (s % 16) (by omega) (by rw [show 16 * (s / 16) + s % 16 = s by omega]; exact h.1)
    have hle := (endOf_facts f (s / 16) (16 - s % 16) (s % 16) (by omega) rfl).2.1
    unfold okRun
    simp only []
    omega
  · unfold runsL runsUpto
    rw [List.pairwise_filterMap]
    refine List.Pairwise.imp ?_ List.pairwise_lt_range
    intro s t hlt a ha b hb
    unfold runAt at ha hb
    split at ha
    · split at hb
      · rename_i hs ht
        obtain rfl := Option.some.inj ha
        obtain rfl := Option.some.inj hb
        unfold before
        simp only []
        by_cases hrow : s / 16 = t / 16
        · right
          refine ⟨by omega, ?_⟩
          have h1 := start_true ht
          have h2 := h1.2
          rcases h2 with h2 | h2
          · omega
          · obtain ⟨g1, g2, g3, g4⟩ := endOf_facts f (s / 16) (16 - s % 16) (s % 16) (by omega) rfl
            rcases Nat.lt_or_ge (endOf f (s / 16) (s % 16)) (t % 16) with h3 | h3
            · omega
            · have := g3 (t % 16 - 1) (by omega) (by omega)
              rw [show 16 * (s / 16) + (t % 16 - 1) = t - 1 by omega, h2] at this
              cases this
        · left
          omega
      · cases hb
    · cases ha
theorem inRun_iff (r : S45) (i : Nat) : inRun r i = true ↔ r.f0 = (i / 16 : Nat) ∧ r.f1 ≤ (i % 16 : Nat) ∧ ((i % 16 : Nat) : Int) < r.f2 := by
  unfold inRun
  simp only [Bool.and_eq_true, decide_eq_true_eq]
  exact ⟨fun h => ⟨h.1.1, h.1.2, h.2⟩, fun h => ⟨⟨h.1, h.2.1⟩, h.2.2⟩⟩
theorem gridF_cons (r : S45) (t : List S45) (i : Nat) : gridF (r :: t) i = (inRun r i || gridF t i) := by simp [gridF]
theorem gridF_iff (l : List S45) (i : Nat) : gridF l i = true ↔ ∃ r ∈ l, inRun r i = true := by
  unfold gridF
  rw [List.any_eq_true]
theorem vTail {r : S45} {t : List S45} (h : Valid (r :: t)) : Valid t := ⟨fun x hx => h.1 x (by simp [hx]), (List.pairwise_cons.1 h.2).2⟩
theorem vHead {r : S45} {t : List S45} (h : Valid (r :: t)) : okRun r := h.1 r (by simp)
theorem vApart {r : S45} {t : List S45} (h : Valid (r :: t)) (i : Nat) (h1 : inRun r i = true) : gridF t i = false := by
  rw [Bool.eq_false_iff]
  intro h2
  obtain ⟨q, hq, hi⟩ := (gridF_iff t i).1 h2
  have hb := (List.pairwise_cons.1 h.2).1 q hq
  have a1 := (inRun_iff r i).1 h1
  have a2 := (inRun_iff q i).1 hi
  unfold before at hb
  omega
/-- The first pixel of a region. -/
theorem vFirst {r : S45} {t : List S45} (h : Valid (r :: t)) (i : Nat) (hi : gridF (r :: t) i = true) : r.f0 < (i / 16 : Nat) ∨ (r.f0 = (i / 16 : Nat) ∧ r.f1 ≤ (i % 16 : Nat)) := by
  have hr := (vHead h)
  rw [gridF_cons, Bool.or_eq_true] at hi
  rcases hi with hi | hi
  · have := (inRun_iff r i).1 hi
    omega
  · obtain ⟨q, hq, hqi⟩ := (gridF_iff t i).1 hi
    have hb := (List.pairwise_cons.1 h.2).1 q hq
    have a2 := (inRun_iff q i).1 hqi
    unfold before okRun at *
    omega
theorem run_first (r : S45) (h : okRun r) : inRun r (16 * r.f0.toNat + r.f1.toNat) = true ∧ 16 * r.f0.toNat + r.f1.toNat < 256 := by
  unfold okRun at h
  rw [inRun_iff]
  omega
theorem vEnds {r : S45} {t : List S45} (h : Valid (r :: t)) (h16 : r.f2 < 16) : gridF (r :: t) (16 * r.f0.toNat + r.f2.toNat) = false := by
  have hr := (vHead h)
  unfold okRun at hr
  rw [Bool.eq_false_iff]
  intro hi
  obtain ⟨q, hq, hqi⟩ := (gridF_iff (r :: t) _).1 hi
  have a2 := (inRun_iff q _).1 hqi
  rcases List.mem_cons.1 hq with rfl | hq
  · omega
  · have hb := (List.pairwise_cons.1 h.2).1 q hq
    unfold before at hb
    omega
theorem run_pix (r : S45) (h : okRun r) (c : Nat) (h1 : r.f1 ≤ (c : Int)) (h2 : (c : Int) < r.f2) : inRun r (16 * r.f0.toNat + c) = true ∧ 16 * r.f0.toNat + c < 256 := by
  unfold okRun at h
  rw [inRun_iff]
  omega
theorem valid_unique : ∀ (l l' : List S45), Valid l → Valid l' → (∀ i, i < 256 → gridF l i = gridF l' i) → l = l'
  | [], [], _, _, _ => rfl
  | [], r' :: t', _, h', hg => by
    have h1 := run_first r' (vHead h')
    have := hg _ h1.2
    rw [gridF_cons, h1.1] at this
    simp [gridF] at this
  | r :: t, [], h, _, hg => by
    have h1 := run_first r (vHead h)
    have := hg _ h1.2
    rw [gridF_cons, h1.1] at this
    simp [gridF] at this
  | r :: t, r' :: t', h, h', hg => by
    have hr := (vHead h)
    have hr' := (vHead h')
    have p1 := run_first r hr
    have p2 := run_first r' hr'
    have q1 := (vFirst h') _ (by rw [← hg _ p1.2, gridF_cons, p1.1]; rfl)
    have q2 := (vFirst h) _ (by rw [hg _ p2.2, gridF_cons, p2.1]; rfl)
    have hrow : r.f0 = r'.f0 ∧ r.f1 = r'.f1 := by
      unfold okRun at hr hr'
      omega
    have hend : r.f2 = r'.f2 := by
      rcases Int.lt_trichotomy r.f2 r'.f2 with hh | hh | hh
      · have e1 := (vEnds h) (by unfold okRun at hr'; omega)
        have e2 := run_pix r' hr' r.f2.toNat (by unfold okRun at hr; omega) (by unfold okRun at hr; omega)
        rw [← hrow.1] at e2
        have := hg _ e2.2
        rw [e1, gridF_cons, e2.1] at this
        simp at this
      · exact hh
      · have e1 := (vEnds h') (by unfold okRun at hr; omega)
        have e2 := run_pix r hr r'.f2.toNat (by unfold okRun at hr'; omega) (by unfold okRun at hr'; omega)
        rw [hrow.1] at e2
        have := hg _ e2.2
        rw [e1, gridF_cons, e2.1] at this
        simp at this
    have hrr : r = r' := by
      cases r
      cases r'
      simp only [] at hrow hend
      obtain ⟨rfl, rfl⟩ := hrow
      subst hend
      rfl
    subst hrr
    congr 1
    refine valid_unique t t' (vTail h) (vTail h') fun i hi => ?_
    have := hg i hi
    rw [gridF_cons, gridF_cons] at this
    cases hin : inRun r i with
    | true => rw [(vApart h) i hin, (vApart h') i hin]
    | false => rwa [hin, Bool.false_or, Bool.false_or] at this
theorem runsL_nil_iff (f : Nat → Bool) : runsL f = [] ↔ ∀ i, i < 256 → f i = false := by
  constructor
  · intro h i hi
    rw [← gridF_runsL f i hi, h]
    rfl
  · intro h
    refine valid_unique _ _ (runsL_valid _) ⟨fun r hr => by simp at hr, List.Pairwise.nil⟩ fun i hi => ?_
    rw [gridF_runsL f i hi, h i hi]
    rfl
def cnt (f : Nat → Bool) (n : Nat) : Nat := ((List.range n).filter f).length
theorem cnt_succ (f : Nat → Bool) (n : Nat) : cnt f (n + 1) = cnt f n + if f n = true then 1 else 0 := by
  unfold cnt
  rw [List.range_succ, List.filter_append]
  cases h : f n <;> simp [h]
theorem cnt_congr {f g : Nat → Bool} (n : Nat) (h : ∀ i, i < n → f i = g i) : cnt f n = cnt g n := by
  induction n with
  | zero => rfl
  | succ n ih => rw [cnt_succ, cnt_succ, ih (fun i hi => h i (by omega)), h n (by omega)]
theorem combined_val (l : List S45) (hv : Valid l) (g : Nat → Bool) (k : Int) (h0 : 0 ≤ k) (h3 : k ≤ 3) : laws_combined.f l (runsL g) k = some (runsL (combF k (gridF l) g)) := by
  unfold laws_combined.f impl_CombineRegions.f
  rw [if_pos ⟨hv, runsL_valid g, h0, h3⟩]
  refine congrArg some (runsL_congr fun i hi => ?_)
  unfold combF
  rw [gridF_runsL g i hi]
theorem has_runsL (f : Nat → Bool) (x y : Nat) (hx : x < 16) (hy : y < 16) : impl_RegionHas.f (runsL f) (x : Int) (y : Int) = some (f (16 * y + x)) := by
  unfold impl_RegionHas.f
  rw [decide_eq_true (runsL_valid f), Bool.true_and, hasF_in _ _ _ hx hy, gridF_runsL _ _ (by omega)]
theorem firstF_iff (f : Nat → Bool) (p : Nat) : firstF f p = true ↔ f p = true ∧ ∀ q, q < p → f q = true → partF f q p = false := by
  unfold firstF
  rw [Bool.and_eq_true, Bool.not_eq_true', Bool.eq_false_iff]
  refine and_congr Iff.rfl ⟨fun h q hq hf => ?_, fun h hs => ?_⟩
  · rw [Bool.eq_false_iff]
    exact fun hp => h ((seenF_iff f p p).2 ⟨q, hq, hf, hp⟩)
  · obtain ⟨q, hq, hf, hp⟩ := (seenF_iff f p p).1 hs
    rw [h q hq hf] at hp
    cases hp
/-- Every pixel lies in a part whose first pixel is not behind it. -/
theorem first_of (f : Nat → Bool) (p : Nat) (hp : p < 256) (h : f p = true) : ∃ s, s ≤ p ∧ firstF f s = true ∧ partF f s p = true := by
  by_cases h1 : firstF f p = true
  · exact ⟨p, Nat.le_refl _, h1, partF_self f p⟩
  · have h2 : seenF f p p = true := by
      unfold firstF at h1
      rw [h] at h1
      simpa using h1
    obtain ⟨q, hq, hf, hpq⟩ := (seenF_iff f p p).1 h2
    obtain ⟨s, hs, hs1, hs2⟩ := first_of f q (by omega) hf
    exact ⟨s, by omega, hs1, partF_trans f s q p (by omega) hp hs2 hpq⟩
termination_by p
/-- Two first pixels of one part are the same. -/
theorem first_same (f : Nat → Bool) (s t : Nat) (hs : s < 256) (ht : t < 256) (h1 : firstF f s = true) (h2 : firstF f t = true) (h : partF f s t = true) : s = t := by
  have e1 := (firstF_iff f s).1 h1
  have e2 := (firstF_iff f t).1 h2
  rcases Nat.lt_trichotomy s t with hlt | hlt | hlt
  · rw [e2.2 s hlt e1.1] at h; cases h
  · exact hlt
  · have := partF_symm f s t hs ht e1.1 h
    rw [e1.2 t hlt e2.1] at this; cases this
theorem partF_congr {f g : Nat → Bool} (h : ∀ i, i < 256 → f i = g i) (s : Nat) (p : Nat) (hp : p < 256) : partF f s p = partF g s p := by
  have key : ∀ n q, q < 256 → spreadN f s n q = spreadN g s n q := by
    intro n
    induction n with
    | zero => intro q _; rfl
    | succ n ih =>
      intro q hq
      show spreadF f (spreadN f s n) q = spreadF g (spreadN g s n) q
      rw [Bool.eq_iff_iff, spreadF_iff, spreadF_iff, ih q hq, h q hq]
      refine or_congr Iff.rfl (and_congr Iff.rfl ?_)
      exact ⟨fun ⟨r, hr, h1, h2⟩ => ⟨r, hr, by rw [← ih r hr]; exact h1, h2⟩, fun ⟨r, hr, h1, h2⟩ => ⟨r, hr, by rw [ih r hr]; exact h1, h2⟩⟩
  exact key 256 p hp
theorem firstF_congr {f g : Nat → Bool} (h : ∀ i, i < 256 → f i = g i) (p : Nat) (hp : p < 256) : firstF f p = firstF g p := by
  rw [Bool.eq_iff_iff, firstF_iff, firstF_iff, h p hp]
  refine and_congr Iff.rfl ⟨fun h1 q hq hf => ?_, fun h1 q hq hf => ?_⟩
  · rw [← partF_congr h q p hp]; exact h1 q hq (by rw [h q (by omega)]; exact hf)
  · rw [partF_congr h q p hp]; exact h1 q hq (by rw [← h q (by omega)]; exact hf)
theorem partsUpto_congr {f g : Nat → Bool} (h : ∀ i, i < 256 → f i = g i) (n : Nat) (hn : n ≤ 256) : partsUpto f n = partsUpto g n := by
  induction n with
  | zero => rw [partsUpto_zero, partsUpto_zero]
  | succ n ih =>
    have e := firstF_congr h n (by omega)
    cases hf : firstF f n with
    | true => rw [partsUpto_first f n hf, partsUpto_first g n (by rw [← e]; exact hf), ih (by omega), runsL_congr (fun i hi => partF_congr h n i hi)]
    | false => rw [partsUpto_not f n hf, partsUpto_not g n (by rw [← e]; exact hf), ih (by omega)]
theorem sq_less (a b : Int) (h0 : 0 ≤ a) (h : a ≤ b) : a * a ≤ b * b := Int.mul_le_mul h h h0 (by omega)
theorem disc_part (x y : Nat) (r : Int) (hx : x < 16) (hy : y < 16) (n : Nat) : ∀ p, p < 256 → (((p % 16 : Nat) : Int) - x).natAbs + (((p / 16 : Nat) : Int) - y).natAbs = n → discF x y r p = true → partF (discF x y r) (16 * y + x) p = true := by
  induction n with
  | zero =>
    intro p hp hn h
    obtain rfl : p = 16 * y + x := by omega
    exact partF_self _ _
  | succ n ih =>
    intro p hp hn h
    have key : ∀ q, q < 256 → nextTo q p → (((q % 16 : Nat) : Int) - x).natAbs + (((q / 16 : Nat) : Int) - y).natAbs = n → (((q % 16 : Nat) : Int) - x) * (((q % 16 : Nat) : Int) - x) + (((q / 16 : Nat) : Int) - y) * (((q / 16 : Nat) : Int) - y) ≤ (((p % 16 : Nat) : Int) - x) * (((p % 16 : Nat) : Int) - x) + (((p / 16 : Nat) : Int) - y) * (((p / 16 : Nat) : Int) - y) → partF (discF x y r) (16 * y + x) p = true := fun q hq h1 h2 h3 => by
      refine partF_closed _ _ (by omega) q p hq hp (ih q hq h2 ?_) h1 h
      unfold discF discB at h ⊢
      rw [decide_eq_true_eq] at h ⊢
      exact Int.le_trans h3 h
    by_cases h1 : p % 16 = x
    · by_cases h2 : y < p / 16
      · refine key (p - 16) (by omega) (by unfold nextTo; omega) (by omega) ?_
        rw [show (p - 16) % 16 = p % 16 by omega]
        exact Int.add_le_add_left (sq_less _ _ (by omega) (by omega)) _
      · refine key (p + 16) (by omega) (by unfold nextTo; omega) (by omega) ?_
        rw [show (p + 16) % 16 = p % 16 by omega]
        refine Int.add_le_add_left ?_ _
        rw [← Int.neg_mul_neg (((p + 16) / 16 : Nat) - (y : Int)), ← Int.neg_mul_neg ((p / 16 : Nat) - (y : Int))]
        exact sq_less _ _ (by omega) (by omega)
    · by_cases h2 : x < p % 16
      · refine key (p - 1) (by omega) (by unfold nextTo; omega) (by omega) ?_
        rw [show (p - 1) / 16 = p / 16 by omega]
        exact Int.add_le_add_right (sq_less _ _ (by omega) (by omega)) _
      · refine key (p + 1) (by omega) (by unfold nextTo; omega) (by omega) ?_
        rw [show (p + 1) / 16 = p / 16 by omega]
        refine Int.add_le_add_right ?_ _
        rw [← Int.neg_mul_neg (((p + 1) % 16 : Nat) - (x : Int)), ← Int.neg_mul_neg ((p % 16 : Nat) - (x : Int))]
        exact sq_less _ _ (by omega) (by omega)
theorem disc_own (x y : Nat) (r : Int) (hx : x < 16) (hy : y < 16) : discF x y r (16 * y + x) = true := by
  unfold discF discB
  rw [show (16 * y + x) % 16 = x by omega, show (16 * y + x) / 16 = y by omega, Int.sub_self, Int.sub_self, decide_eq_true_eq]
  have := sq_nonneg_ r
  omega
theorem cnt_one_at (s n : Nat) : cnt (fun p => decide (p = s)) n = if s < n then 1 else 0 := by
  induction n with
  | zero => rfl
  | succ n ih =>
    rw [cnt_succ, ih]
    by_cases h : n = s
    · rw [if_neg (by omega), if_pos (decide_eq_true h), if_pos (by omega)]
    · by_cases h2 : s < n
      · rw [if_pos h2, if_neg (by simp [h]), if_pos (by omega)]
      · rw [if_neg h2, if_neg (by simp [h]), if_neg (by omega)]
/-- A connected region has one part. -/
theorem parts_one (f : Nat → Bool) (c : Nat) (hc : c < 256) (h0 : f c = true) (h : ∀ p, p < 256 → f p = true → partF f c p = true) : (partsUpto f 256).length = 1 := by
  obtain ⟨s, hs, hs1, hs2⟩ := first_of f c hc h0
  have e : (partsUpto f 256).length = cnt (firstF f) 256 := by
    unfold partsUpto cnt
    rw [List.length_map]
  rw [e, cnt_congr (g := fun p => decide (p = s)) 256 (fun p hp => ?_), cnt_one_at, if_pos (by omega)]
  rw [Bool.eq_iff_iff, decide_eq_true_eq]
  constructor
  · intro hf
    have h1 := ((firstF_iff f p).1 hf).1
    exact (first_same f s p (by omega) hp hs1 hf (partF_trans f s c p (by omega) hp hs2 (h p hp h1))).symm
  · rintro rfl
    exact hs1
theorem disc_more (x y r : Int) (h : 0 ≤ r) (p : Nat) (hd : discF x y r p = true) : discF x y (r + 1) p = true := by
  unfold discF discB at hd ⊢
  rw [decide_eq_true_eq] at hd ⊢
  exact Int.le_trans hd (sq_less _ _ h (by omega))

theorem rdN (l : List Int) (k : Nat) (h : k < l.length) : rd l (k : Int) = l[k] := by
  simp [rd, List.getD_eq_getElem?_getD, List.getElem?_eq_getElem h]
/-- A code that a reader reads. -/
def CodeOk (b : List Int) : Prop := b.length ≤ 2000 ∧ ∀ x ∈ b, 0 ≤ x ∧ x ≤ 255
theorem code_rd (b : List Int) (h : CodeOk b) (i : Int) (h0 : 0 ≤ i) (h1 : i < b.length) : 0 ≤ rd b i ∧ rd b i ≤ 255 := by
  obtain ⟨n, rfl⟩ := Int.eq_ofNat_of_zero_le h0
  rw [rdN b n (by omega)]
  exact h.2 _ (List.getElem_mem _)
theorem xor_nonneg (a b : Int) (ha : 0 ≤ a) (ha1 : a < 4611686018427387904) (hb : 0 ≤ b) (hb1 : b < 4611686018427387904) : 0 ≤ Go.bits .xor .i64 a b := by
  obtain ⟨n, rfl⟩ := Int.eq_ofNat_of_zero_le ha
  obtain ⟨m, rfl⟩ := Int.eq_ofNat_of_zero_le hb
  have hx : n ^^^ m < 2 ^ 62 := Nat.xor_lt_two_pow (by omega) (by omega)
  have e : Go.bits .xor .i64 (n : Int) (m : Int) = ((n ^^^ m : Nat) : Int) := by
    have hp : (2 : Nat) ^ IntKind.i64.bits = 18446744073709551616 := by decide
    have ha' : n % 2 ^ IntKind.i64.bits = n := Nat.mod_eq_of_lt (by omega)
    have hb' : m % 2 ^ IntKind.i64.bits = m := Nat.mod_eq_of_lt (by omega)
    simp only [bits, BitVec.ofInt_natCast, BitVec.toNat_xor, BitVec.toNat_ofNat, ha', hb']
    rw [IntKind.wrap_i64]
    omega
  rw [e]
  omega
theorem spec_reader_pick.ev (b : List Int) (h : CodeOk b) (p n : Int) (hp0 : 0 ≤ p) (hp1 : p < 1000000000) (hn : n ≤ 1000000) : ∃ v, Ev (fun k => spec_reader_pick.f k b p n) (v, p + 1) ∧ 0 ≤ v ∧ (v < n ∨ v = 0) := by
  have hw : wrap64 (p + 1) = p + 1 := wrapIn (by omega) (by omega)
  have hw1 : wrap64 (p + 1 - 1) = p := by rw [wrapIn (by omega) (by omega)]; omega
  unfold spec_reader_pick.f
  rw [hw]
  by_cases hn1 : n < 1
  · refine ⟨0, evPos hn1 (Ev.step (fun k => by simp only [spec_reader_pick.j0]; rfl) (evPos (by trivial) (evRet rfl))), by omega, .inr rfl⟩
  by_cases hb : (b.length : Int) = 0
  · refine ⟨0, evNeg hn1 (Ev.step (fun k => by simp only [spec_reader_pick.j0]; rfl) (evPos (by simp [hb]) (evRet rfl))), by omega, .inr rfl⟩
  have hbf : ((b.length : Int) == 0) = false := by simpa using hb
  have hl := h.1
  by_cases hlt : p < (b.length : Int)
  · have hr := code_rd b h p hp0 hlt
    refine ⟨Int.tmod (wrap64 (rd b p)) n, evNeg hn1 (Ev.step (fun k => by simp only [spec_reader_pick.j0, hbf, hw1]; rfl) (evNeg (by simp) (evPos hlt (evPos hp0 (evNeg (by omega) (evRet rfl)))))), ?_, .inl ?_⟩
    · exact Int.tmod_nonneg _ (by rw [wrapIn (by omega) (by omega)]; omega)
    · exact Int.tmod_lt_of_pos _ (by omega)
  · have hm0 : 0 ≤ Int.tmod p (b.length : Int) := Int.tmod_nonneg _ hp0
    have hm1 : Int.tmod p (b.length : Int) < b.length := Int.tmod_lt_of_pos _ (by omega)
    have hq : wrap64 (wrap64 (p * 7) + 3) = p * 7 + 3 := by rw [wrapIn (x := p * 7) (by omega) (by omega), wrapIn (by omega) (by omega)]
    have hk0 : 0 ≤ Int.tmod (p * 7 + 3) (b.length : Int) := Int.tmod_nonneg _ (by omega)
    have hk1 : Int.tmod (p * 7 + 3) (b.length : Int) < b.length := Int.tmod_lt_of_pos _ (by omega)
    have r1 := code_rd b h _ hm0 hm1
    have r2 := code_rd b h _ hk0 hk1
    have hd0 : 0 ≤ Int.tdiv p (b.length : Int) := Int.tdiv_nonneg hp0 (by omega)
    have hd1 : Int.tdiv p (b.length : Int) ≤ p := by
      have := Int.natAbs_tdiv_le_natAbs p (b.length : Int)
      omega
    refine ⟨_, evNeg hn1 (Ev.step (fun k => by simp only [spec_reader_pick.j0, hbf, hw1, hq]; rfl) (evNeg (by simp) (evNeg hlt (evNeg hb (evPos hm0 (evPos hm1 (evPos hk0 (evPos hk1 (evNeg (by omega) (evRet rfl)))))))))), ?_, .inl (Int.tmod_lt_of_pos _ (by omega))⟩
    generalize rd b (Int.tmod p (b.length : Int)) = u at *
    generalize rd b (Int.tmod (p * 7 + 3) (b.length : Int)) = t at *
    generalize Int.tdiv p (b.length : Int) = q at *
    rw [wrapIn (x := u) (by omega) (by omega), wrapIn (x := t) (by omega) (by omega), wrapIn (x := q) (by omega) (by omega), wrapIn (x := u * 131) (by omega) (by omega), wrapIn (x := t * 1117) (by omega) (by omega), wrapIn (x := u * 131 + t * 1117) (by omega) (by omega), wrapIn (x := p * 29) (by omega) (by omega), wrapIn (x := u * 131 + t * 1117 + p * 29) (by omega) (by omega), wrapIn (x := q * 53) (by omega) (by omega), wrapIn (x := u * 131 + t * 1117 + p * 29 + q * 53) (by omega) (by omega)]
    generalize hX : u * 131 + t * 1117 + p * 29 + q * 53 = X
    have hX0 : 0 ≤ X := by omega
    have hX1 : X < 4611686018427387904 := by omega
    have hT0 : 0 ≤ Int.tdiv X 64 := Int.tdiv_nonneg hX0 (by omega)
    have hT1 : Int.tdiv X 64 ≤ X := by
      have := Int.natAbs_tdiv_le_natAbs X 64
      omega
    rw [wrapIn (x := Int.tdiv X 64) (by omega) (by omega)]
    exact Int.tmod_nonneg _ (xor_nonneg _ _ hX0 hX1 hT0 (by omega))
theorem spec_newReader.ev (l : List Int) (hw : ∀ x ∈ l, (Lit.int .u8 x).wf = true) : ∃ b, spec_newReader.f l = some (b, 0) ∧ CodeOk b := by
  have hx : ∀ x ∈ l, 0 ≤ x ∧ x ≤ 255 := fun x hx => by
    have := hw x hx
    have hmin : IntKind.u8.min = 0 := rfl
    have hmax : IntKind.u8.max = 255 := rfl
    simp only [Lit.wf, Bool.and_eq_true, decide_eq_true_eq] at this
    omega
  unfold spec_newReader.f
  by_cases h : (l.length : Int) > 2000
  · rw [if_pos h, if_pos (by omega)]
    exact ⟨_, rfl, by simp; omega, fun x h2 => hx x (List.mem_of_mem_take h2)⟩
  · rw [if_neg h]
    exact ⟨_, rfl, by omega, hx⟩

theorem spec_reader_one.ev (b : List Int) (h : CodeOk b) (p : Int) (hp0 : 0 ≤ p) (hp1 : p < 1000000000) (l : List Int) (hl0 : 0 < l.length) (hl1 : l.length ≤ 1000) : ∃ v, Ev (fun k => spec_reader_one.f k b p l) (v, p + 1) ∧ v ∈ l := by
  obtain ⟨v, hv, h0, h1⟩ := spec_reader_pick.ev b h p (l.length : Int) hp0 hp1 (by omega)
  have hlt : v < l.length := by omega
  refine ⟨rd l v, ?_, ?_⟩
  · unfold spec_reader_one.f
    exact evBind hv (evPos h0 (evPos hlt (evRet rfl)))
  · obtain ⟨n, rfl⟩ := Int.eq_ofNat_of_zero_le h0
    rw [rdN l n (by omega)]
    exact List.getElem_mem _

theorem laws_equalRuns.refl_l0 (a : List S45) (hl : a.length ≤ 9223372036854775806) (d : Nat) : ∀ i, i ≤ a.length → a.length - i = d →
    Ev (fun k => laws_equalRuns.l0 k a a (i : Int)) true := by
  induction d with
  | zero =>
    intro i hi hd
    exact Ev.step (fun k => by simp only [laws_equalRuns.l0]; rfl) (evNeg (by omega) (evRet rfl))
  | succ d ih =>
    intro i hi hd
    have hw : wrap64 ((i : Int) + 1) = ((i + 1 : Nat) : Int) := wrapSucc i (by omega)
    have := ih (i + 1) (by omega) (by omega)
    refine Ev.step (f := fun k => laws_equalRuns.l0 k a a ((i + 1 : Nat) : Int)) (fun k => ?_) this
    simp only [laws_equalRuns.l0, hw]
    rw [if_pos (by omega), if_pos (by omega), if_pos (by omega)]
    simp
theorem laws_equalRuns.refl (a : List S45) (hl : a.length ≤ 9223372036854775806) : Ev (fun k => laws_equalRuns.f k a a) true := by
  unfold laws_equalRuns.f
  exact evPos rfl (laws_equalRuns.refl_l0 a hl a.length 0 (by omega) (by omega))

theorem runsL_length (f : Nat → Bool) : (runsL f).length ≤ 256 := runsUpto_length f 256

theorem inRange_val (a lo hi : Int) : spec_inRange.f a lo hi = some (decide (lo ≤ a ∧ a ≤ hi)) := by
  unfold spec_inRange.f
  split
  · rename_i h; simp [h]
  · rename_i h; simp [h]

theorem onGrid_val (a b : Int) : spec_onGrid.f a b = some (decide ((0 ≤ a ∧ a ≤ 15) ∧ (0 ≤ b ∧ b ≤ 15))) := by
  unfold spec_onGrid.f
  rw [inRange_val, inRange_val]
  simp only [Option.bind_some]
  by_cases h : 0 ≤ a ∧ a ≤ 15
  · simp [h]
  · simp [h]

/-- The reference's runs of a row, from column x on. -/
def RowAt (f : Nat → Bool) (y : Nat) (out : List S45) (fr : Int) (x : Nat) : Prop :=
  (fr = -1 ∧ (x = 0 ∨ f (16 * y + x - 1) = false) ∧ out = runsUpto f (16 * y + x)) ∨
  ∃ a : Nat, fr = (a : Int) ∧ a < x ∧ (∀ i, a ≤ i → i < x → f (16 * y + i) = true) ∧ (a = 0 ∨ f (16 * y + a - 1) = false) ∧ out = runsUpto f (16 * y + a)
theorem endOf_eq (f : Nat → Bool) (y a x : Nat) (hax : a ≤ x) (hx : x ≤ 16) (h : ∀ i, a ≤ i → i < x → f (16 * y + i) = true) (he : x = 16 ∨ f (16 * y + x) = false) : endOf f y a = x := by
  obtain ⟨h1, h2, h3, h4⟩ := endOf_facts f y (16 - a) a (by omega) rfl
  rcases Nat.lt_trichotomy (endOf f y a) x with hh | hh | hh
  · have := h (endOf f y a) h1 hh
    rw [h4 (by omega)] at this
    cases this
  · exact hh
  · rcases he with he | he
    · omega
    · have := h3 x hax hh
      rw [he] at this
      cases this
theorem spec_runsOf.ev_l1 (f : Nat → Bool) (y : Nat) (hy : y < 16) (R : List S45) (hR : Ev (fun k => spec_runsOf.l0 k (gl f) (runsUpto f (16 * (y + 1))) ((y + 1 : Nat) : Int)) R) (d : Nat) : ∀ x out fr, x ≤ 17 → 17 - x = d → (x = 17 → fr = -1 ∧ out = runsUpto f (16 * (y + 1))) → (x ≤ 16 → RowAt f y out fr x) →
    Ev (fun k => spec_runsOf.l1 k (gl f) out (y : Int) fr (x : Int)) R := by
  have hwy : wrap64 ((y : Int) + 1) = ((y + 1 : Nat) : Int) := wrapSucc y (by omega)
  induction d with
  | zero =>
    intro x out fr hx hd h17 _
    obtain ⟨_, rfl⟩ := h17 (by omega)
    exact Ev.step (fun k => by simp only [spec_runsOf.l1, hwy]; rfl) (evNeg (by omega) hR)
  | succ d ih =>
    intro x out fr hx hd _ hrow
    have hrow := hrow (by omega)
    have hw : wrap64 ((x : Int) + 1) = ((x + 1 : Nat) : Int) := wrapSucc x (by omega)
    have hlen : ∀ n, (runsUpto f n).length < 5864062014805 ∨ 5864062014805 ≤ n := fun n => by have := runsUpto_length f n; omega
    refine Ev.step (fun k => by simp only [spec_runsOf.l1, hwy]; rfl) (evPos (by omega) ?_)
    -- the pixel there
    obtain ⟨p, hp, hgo⟩ : ∃ p : Bool, (x < 16 ∧ p = f (16 * y + x) ∨ x = 16 ∧ p = false) ∧ (Ev (fun k => spec_runsOf.j2 k (gl f) out (y : Int) fr (x : Int) p) R → Ev (fun k => if (x : Int) < 16 then (if 0 ≤ (wrap64 ((wrap64 ((y : Int) * 16)) + x)) then (if (wrap64 ((wrap64 ((y : Int) * 16)) + x)) < ((gl f).length : Int) then (spec_runsOf.j2 k (gl f) out (y : Int) fr (x : Int) (rdOf false (gl f) (wrap64 ((wrap64 ((y : Int) * 16)) + x)))) else (none)) else (none)) else (spec_runsOf.j2 k (gl f) out (y : Int) fr (x : Int) false)) R) := by
      by_cases h : x < 16
      · have hi : wrap64 ((wrap64 ((y : Int) * 16)) + x) = ((16 * y + x : Nat) : Int) := by rw [wrapIn (x := (y : Int) * 16) (by omega) (by omega), wrapIn (by omega) (by omega)]; omega
        refine ⟨f (16 * y + x), .inl ⟨h, rfl⟩, fun he => ?_⟩
        rw [hi]
        refine evPos (by omega) (evPos (by omega) (evPos (by rw [gl_length]; omega) ?_))
        rw [gl_rd f _ (by omega)]
        exact he
      · exact ⟨false, .inr ⟨by omega, rfl⟩, fun he => evNeg (by omega) he⟩
    refine hgo ?_
    have hnext : RowAt f y (if p = true then out else if fr = -1 then out else out ++ [⟨(y : Int), fr, (x : Int)⟩]) (if p = true then (if fr = -1 then (x : Int) else fr) else -1) (x + 1) ∨ x = 16 := by
      rcases hp with ⟨h16, hp⟩ | ⟨h16, _⟩
      · left
        rcases hrow with ⟨rfl, hprev, rfl⟩ | ⟨a, rfl, ha, hall, hprev, rfl⟩
        · cases hpv : p with
          | true =>
            right
            refine ⟨x, by simp, by omega, fun i h1 h2 => ?_, hprev, by simp⟩
            obtain rfl : i = x := by omega
            rw [← hp, hpv]
          | false =>
            left
            refine ⟨by simp, .inr (by rw [show 16 * y + (x + 1) - 1 = 16 * y + x by omega, ← hp, hpv]), ?_⟩
            rw [if_neg (by simp), if_pos rfl, show 16 * y + (x + 1) = 16 * y + x + 1 by omega, runsUpto_false f _ (by rw [← hp, hpv])]
        · have hne : ¬ ((a : Int) = -1) := by omega
          cases hpv : p with
          | true =>
            right
            refine ⟨a, by simp [hne], by omega, fun i h1 h2 => ?_, hprev, by simp⟩
            rcases Nat.lt_or_ge i x with h3 | h3
            · exact hall i h1 h3
            · obtain rfl : i = x := by omega
              rw [← hp, hpv]
          | false =>
            left
            have hf0 : f (16 * y + x) = false := by rw [← hp, hpv]
            have hend := endOf_eq f y a x (by omega) (by omega) hall (.inr hf0)
            refine ⟨by simp, .inr (by rw [show 16 * y + (x + 1) - 1 = 16 * y + x by omega]; exact hf0), ?_⟩
            have hrun := runsUpto_run f y a (by omega) (hall a (by omega) ha) hprev
            rw [hend] at hrun
            rw [if_neg (by simp), if_neg hne, show 16 * y + (x + 1) = 16 * y + x + 1 by omega, runsUpto_false f _ hf0, hrun]
      · exact .inr h16
    have hlast : x = 16 → (if p = true then (if fr = -1 then (x : Int) else fr) else (-1 : Int)) = -1 ∧ (if p = true then out else if fr = -1 then out else out ++ [⟨(y : Int), fr, (x : Int)⟩]) = runsUpto f (16 * (y + 1)) := by
      intro h16
      have hpf : p = false := by
        rcases hp with ⟨h, _⟩ | ⟨_, h⟩
        · omega
        · exact h
      subst hpf
      refine ⟨by simp, ?_⟩
      rw [if_neg (by simp)]
      rcases hrow with ⟨rfl, hprev, rfl⟩ | ⟨a, rfl, ha, hall, hprev, rfl⟩
      · rw [if_pos rfl, h16]
        rfl
      · rw [if_neg (by omega)]
        have hend := endOf_eq f y a x (by omega) (by omega) hall (.inl h16)
        have hrun := runsUpto_run f y a (by omega) (hall a (by omega) ha) hprev
        rw [hend] at hrun
        rw [← hrun, h16]
        rfl
    have hcont := ih (x + 1) (if p = true then out else if fr = -1 then out else out ++ [⟨(y : Int), fr, (x : Int)⟩]) (if p = true then (if fr = -1 then (x : Int) else fr) else -1) (by omega) (by omega) (fun h => hlast (by omega)) (fun h => by
      rcases hnext with h2 | h2
      · exact h2
      · omega)
    have hfr : fr = -1 ∨ 0 ≤ fr := by
      rcases hrow with ⟨rfl, _⟩ | ⟨a, rfl, _⟩
      · exact .inl rfl
      · exact .inr (by omega)
    have hol : out.length < 5864062014805 := by
      rcases hrow with ⟨_, _, rfl⟩ | ⟨a, _, _, _, _, rfl⟩
      · rcases hlen (16 * y + x) with h | h <;> omega
      · rcases hlen (16 * y + a) with h | h <;> omega
    cases p with
    | true =>
      rw [if_pos rfl, if_pos rfl] at hcont
      refine Ev.step (fun k => by simp only [spec_runsOf.j2]; rfl) ?_
      refine evPos (by trivial) ?_
      refine Ev.step (fun k => by simp only [spec_runsOf.j3, hw]; rfl) ?_
      rcases hfr with rfl | h0
      · rw [if_pos rfl] at hcont
        exact evPos (by simp) (evPos (by trivial) hcont)
      · rw [if_neg (by omega)] at hcont
        exact evNeg (by simp; omega) (evPos (by trivial) hcont)
    | false =>
      simp only [Bool.false_eq_true, if_false] at hcont
      refine Ev.step (fun k => by simp only [spec_runsOf.j2]; rfl) ?_
      refine evNeg (by first | exact not_false | simp) ?_
      refine Ev.step (fun k => by simp only [spec_runsOf.j3, hw]; rfl) ?_
      refine evNeg (by first | exact not_false | simp) ?_
      refine evNeg (by first | exact not_false | simp) ?_
      rcases hfr with rfl | h0
      · rw [if_pos rfl] at hcont
        exact evNeg (by omega) hcont
      · rw [if_neg (by omega)] at hcont
        exact evPos (by omega) (evPos hol hcont)
theorem spec_runsOf.ev_l0 (f : Nat → Bool) (d : Nat) : ∀ y, y ≤ 16 → 16 - y = d → Ev (fun k => spec_runsOf.l0 k (gl f) (runsUpto f (16 * y)) (y : Int)) (runsL f) := by
  induction d with
  | zero =>
    intro y hy hd
    obtain rfl : y = 16 := by omega
    exact Ev.step (fun k => by simp only [spec_runsOf.l0]; rfl) (evNeg (by omega) (evRet rfl))
  | succ d ih =>
    intro y hy hd
    refine Ev.step (fun k => by simp only [spec_runsOf.l0]; rfl) (evPos (by omega) ?_)
    have := spec_runsOf.ev_l1 f y (by omega) (runsL f) (ih (y + 1) (by omega) (by omega)) 17 0 (runsUpto f (16 * y)) (-1) (by omega) rfl (fun h => by omega) (fun _ => .inl ⟨rfl, .inl rfl, rfl⟩)
    exact this
theorem spec_runsOf.ev (f : Nat → Bool) : Ev (fun k => spec_runsOf.f k (gl f)) (runsL f) := spec_runsOf.ev_l0 f 16 0 (by omega) rfl

theorem spec_DiscRegion.ev_l0 (x y r : Int) (hk : discOk x y r) (d : Nat) : ∀ p, p ≤ 256 → 256 - p = d →
    Ev (fun k => spec_DiscRegion.l0 k x y r (gl fun j => decide (j < p) && discF x y r j) (p : Int)) (runsL (discF x y r)) := by
  obtain ⟨h1, h2, h3, h4, h5, h6⟩ := hk
  induction d with
  | zero =>
    intro p hp hd
    obtain rfl : p = 256 := by omega
    refine Ev.step (fun k => by simp only [spec_DiscRegion.l0]; rfl) (evNeg (by rw [gl_length]; omega) ?_)
    rw [gl_congr (g := discF x y r) (fun i hi => by rw [decide_eq_true hi, Bool.true_and])]
    exact evBind (spec_runsOf.ev _) (evRet rfl)
  | succ d ih =>
    intro p hp hd
    have hw : wrap64 ((p : Int) + 1) = ((p + 1 : Nat) : Int) := wrapSucc p (by omega)
    have ht : Int.tmod (p : Int) 16 = ((p % 16 : Nat) : Int) := by rw [Int.tmod_eq_emod_of_nonneg (by omega)]; omega
    have hq : Int.tdiv (p : Int) 16 = ((p / 16 : Nat) : Int) := by rw [Int.tdiv_eq_ediv_of_nonneg (by omega)]; omega
    have q1 := sq_bound ((p % 16 : Nat) : Int) x (by omega) (by omega) h1 (by omega)
    have q2 := sq_bound ((p / 16 : Nat) : Int) y (by omega) (by omega) h3 (by omega)
    have q3 := sq_bound r 0 h5 h6 (by omega) (by omega)
    rw [Int.sub_zero] at q3
    have := ih (p + 1) (by omega) (by omega)
    refine Ev.step (f := fun k => spec_DiscRegion.l0 k x y r (gl fun j => decide (j < p + 1) && discF x y r j) ((p + 1 : Nat) : Int)) (fun k => ?_) this
    simp only [spec_DiscRegion.l0, hw, ht, hq]
    rw [if_pos (by rw [gl_length]; omega), if_pos (by omega), wrapIn (x := ((p / 16 : Nat) : Int)) (by omega) (by omega), wrapIn (x := ((p % 16 : Nat) : Int) - x) (by omega) (by omega), wrapIn (x := ((p / 16 : Nat) : Int) - y) (by omega) (by omega)]
    rw [wrapIn (x := (((p % 16 : Nat) : Int) - x) * (((p % 16 : Nat) : Int) - x)) (by omega) (by omega), wrapIn (x := (((p / 16 : Nat) : Int) - y) * (((p / 16 : Nat) : Int) - y)) (by omega) (by omega), wrapIn (x := r * r) (by omega) (by omega)]
    rw [wrapIn (x := (((p % 16 : Nat) : Int) - x) * (((p % 16 : Nat) : Int) - x) + (((p / 16 : Nat) : Int) - y) * (((p / 16 : Nat) : Int) - y)) (by omega) (by omega)]
    rw [Int.toNat_natCast, gl_set]
    congr 1
    refine gl_congr fun i hi => ?_
    by_cases e : i = p
    · subst e
      rw [if_pos rfl, decide_eq_true (show i < i + 1 by omega), Bool.true_and]
      rfl
    · rw [if_neg e]
      congr 1
      exact decide_eq_decide.mpr (by omega)
theorem spec_DiscRegion.ev (x y r : Int) : Ev (fun k => spec_DiscRegion.f k x y r) (if discOk x y r then runsL (discF x y r) else []) := by
  have hno : ¬ discOk x y r → Ev (fun k => spec_DiscRegion.j0 k x y r true) (if discOk x y r then runsL (discF x y r) else []) := fun h => by
    rw [if_neg h]
    exact Ev.step (fun k => by simp only [spec_DiscRegion.j0]; rfl) (evPos (by trivial) (evRet rfl))
  unfold spec_DiscRegion.f
  refine evFix (onGrid_val x y) (evIf (fun h => ?_) (fun h => ?_))
  · rw [decide_eq_true_eq] at h
    refine evFix (inRange_val r 0 16) ?_
    by_cases h2 : 0 ≤ r ∧ r ≤ 16
    · have hk : discOk x y r := ⟨h.1.1, by omega, h.2.1, by omega, h2.1, h2.2⟩
      rw [decide_eq_true h2, if_pos hk]
      refine Ev.step (fun k => by simp only [spec_DiscRegion.j0]; rfl) ?_
      refine evNeg (by simp) (evPos (by omega) ?_)
      rw [gl_false]
      have := spec_DiscRegion.ev_l0 x y r hk 256 0 (by omega) (by omega)
      rw [gl_congr (g := fun _ => false) (fun i hi => by rw [decide_eq_false (by omega)]; rfl)] at this
      exact this
    · rw [decide_eq_false h2]
      exact hno fun hk => h2 ⟨hk.2.2.2.2.1, hk.2.2.2.2.2⟩
  · rw [decide_eq_true_eq] at h
    exact hno fun hk => h ⟨⟨hk.1, by have := hk.2.1; omega⟩, hk.2.2.1, by have := hk.2.2.2.1; omega⟩

theorem spec_DrawDiscRegion.ev (l : List Int) (hw : ∀ x ∈ l, (Lit.int .u8 x).wf = true) : ∃ x y r, Ev (fun k => spec_DrawDiscRegion.f k l) (x, y, r) := by
  obtain ⟨b, hb, h⟩ := spec_newReader.ev l hw
  obtain ⟨u, hu, u0, u1⟩ := spec_reader_pick.ev b h 0 18 (by omega) (by omega) (by omega)
  obtain ⟨v, hv, v0, v1⟩ := spec_reader_pick.ev b h (0 + 1) 17 (by omega) (by omega) (by omega)
  obtain ⟨r, hr, hm⟩ := spec_reader_one.ev b h (0 + 1 + 1) (by omega) (by omega) [0, 1, 2, 3, 5, 16, 17, (-1)] (by simp) (by simp)
  exact ⟨wrap64 (u - 1), v, r, by unfold spec_DrawDiscRegion.f; exact evFix hb (evBind hu (evBind hv (evBind hr (evRet rfl))))⟩
theorem disc_yes (x y r : Int) (hk : discOk x y r) : Ev (fun k => laws_FnDiscRegion.j0 k x y r (runsL (discF x y r)) false) true := by
  obtain ⟨h1, h2, h3, h4, h5, h6⟩ := hk
  obtain ⟨a, rfl⟩ := Int.eq_ofNat_of_zero_le h1
  obtain ⟨b, rfl⟩ := Int.eq_ofNat_of_zero_le h3
  have hh : impl_RegionHas.f (runsL (discF a b r)) (a : Int) (b : Int) = some true := by
    rw [has_runsL _ _ _ (by omega) (by omega), disc_own a b r (by omega) (by omega)]
  have hp : ∃ P, impl_PartsOf.f (runsL (discF a b r)) = some P ∧ P.length = 1 := by
    refine ⟨_, rfl, ?_⟩
    rw [if_pos (runsL_valid _), partsUpto_congr (fun q hq => gridF_runsL _ q hq) 256 (Nat.le_refl _)]
    exact parts_one _ (16 * b + a) (by omega) (disc_own a b r (by omega) (by omega)) (fun p hp hf => disc_part a b r (by omega) (by omega) _ p hp rfl hf)
  obtain ⟨P, hp, hp1⟩ := hp
  have hc : ∀ g : Nat → Bool, (∀ q, q < 256 → discF a b r q = true → g q = true) → laws_combined.f (runsL (discF a b r)) (runsL g) 2 = some [] := fun g hg => by
    rw [combined_val (runsL (discF a b r)) (runsL_valid _) g 2 (by omega) (by omega)]
    refine congrArg some ((runsL_nil_iff _).2 fun q hq => ?_)
    unfold combF combB
    rw [if_neg (by omega), if_neg (by omega), if_pos rfl, gridF_runsL _ q hq]
    cases hf : discF a b r q with
    | false => rfl
    | true => rw [hg q hq hf]; rfl
  have c1 : (P.length : Int) = 1 := by omega
  refine Ev.step (fun k => by simp only [laws_FnDiscRegion.j0]; rfl) (evNeg (by first | exact not_false | simp) (evIf (fun h => ?_) (fun h => ?_)))
  · have hw : wrap64 (r + 1) = r + 1 := wrapIn (by omega) (by omega)
    have hm : impl_DiscRegion.f (a : Int) (b : Int) (wrap64 (r + 1)) = some (runsL (discF a b (r + 1))) := by
      rw [hw]
      unfold impl_DiscRegion.f
      rw [if_pos (by unfold discOk; omega)]
    exact evFix hm (evFix hh (evPos rfl (evFix hp (evPos c1 (evFix (hc _ (fun q _ hf => disc_more a b r h5 q hf)) (evRet rfl))))))
  · exact evFix hh (evPos rfl (evFix hp (evPos c1 (evFix (hc _ (fun q _ hf => hf)) (evRet rfl)))))
theorem FnDiscRegion : laws_FnDiscRegion.Pure := by
  intro l _ _ hw
  refine Ev.rounds ?_
  obtain ⟨x, y, r, hr⟩ := spec_DrawDiscRegion.ev l hw
  have hs := spec_DiscRegion.ev x y r
  have hlen : (if discOk x y r then runsL (discF x y r) else []).length ≤ 9223372036854775806 := by
    split
    · have := runsL_length (discF x y r); omega
    · simp
  have heq := laws_equalRuns.refl _ hlen
  have hi : impl_DiscRegion.f x y r = some (if discOk x y r then runsL (discF x y r) else []) := rfl
  have hno : Ev (fun k => laws_FnDiscRegion.j0 k x y r (if discOk x y r then runsL (discF x y r) else []) true) true :=
    Ev.step (fun k => by simp only [laws_FnDiscRegion.j0]; rfl) (evPos (by trivial) (evBind hs (evBind heq (evRet rfl))))
  unfold laws_FnDiscRegion.f
  refine evIf (fun _ => evRet rfl) (fun _ => evBind hr (evFix hi (evBind hs (evBind heq (evPos rfl ?_)))))
  cases hc : (((if discOk x y r then runsL (discF x y r) else []).length : Int) == 0) with
  | true => exact hno
  | false =>
    by_cases hk : discOk x y r
    · rw [if_pos hk]
      exact disc_yes x y r hk
    · rw [if_neg hk] at hc
      cases hc

end Go.Proofs.Ytceoecmjccakgaa.Pure
