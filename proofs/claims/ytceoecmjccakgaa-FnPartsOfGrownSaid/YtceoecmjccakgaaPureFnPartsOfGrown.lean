/- FnPartsOfGrown answers true for every code: a grown part has no pixels of another part. No condition. -/
import Derived.Test.YtceoecmjccakgaaPrintHimplCombineRegions
import Derived.Test.YtceoecmjccakgaaPrintHimplPartsOf
import Derived.Test.YtceoecmjccakgaaPrintHimplgridgrown
import Derived.Test.YtceoecmjccakgaaPrintHimplgridpart
import Derived.Test.YtceoecmjccakgaaPrintHx0
import Derived.Test.YtceoecmjccakgaaPrintHx2
import Derived.Test.YtceoecmjccakgaaPrintLFnPartsOfGrown
import Derived.Test.YtceoecmjccakgaaPrintR0x0
import Derived.Test.YtceoecmjccakgaaPrintR0x1
import Derived.Test.YtceoecmjccakgaaPrintR1x0
import Derived.Test.YtceoecmjccakgaaPrintR1x1
import Derived.Test.YtceoecmjccakgaaPrintR1x2
import Derived.Test.YtceoecmjccakgaaPrintR1x3
import Derived.Test.YtceoecmjccakgaaPrintR1x5
import Derived.Test.YtceoecmjccakgaaPrintR1x6
import Derived.Test.YtceoecmjccakgaaPrintR1x7
import Derived.Test.YtceoecmjccakgaaPrintR1x8
import Derived.Test.YtceoecmjccakgaaPrintR3x0
namespace Go.Proofs.Ytceoecmjccakgaa.Pure
open Go.RowKit Go.Proofs.Ytceoecmjccakgaa.Print Go.Proofs.YtceoecmjccakgaaW.PrintWords Go.Proofs.YtceoecmjccakgaaW.PrintLast Go.Proofs.YtceoecmjccakgaaW.PrintMore
set_option linter.unusedVariables false
set_option linter.unusedSimpArgs false
def gl (f : Nat → Bool) : List Bool := (List.range 256).map f
theorem gl_length (f : Nat → Bool) : (gl f).length = 256 := by simp [gl]
theorem gl_rd (f : Nat → Bool) (i : Nat) (h : i < 256) : rdOf false (gl f) (i : Int) = f i := by
  simp [rdOf, gl, List.getD_eq_getElem?_getD, List.getElem?_map, List.getElem?_range h]
theorem gl_get (f : Nat → Bool) (j : Nat) (h : j < (gl f).length) : (gl f)[j] = f j := by simp [gl]
theorem gl_set (f : Nat → Bool) (i : Nat) (b : Bool) : (gl f).set i b = gl (fun j => if j = i then b else f j) := by
  apply List.ext_getElem
  · simp [gl]
  · intro j h1 h2
    simp only [List.getElem_set, gl, List.getElem_map, List.getElem_range]
    by_cases h : i = j
    · subst h; simp
    · rw [if_neg h, if_neg (fun e => h e.symm)]
theorem gl_congr {f g : Nat → Bool} (h : ∀ i, i < 256 → f i = g i) : gl f = gl g := by
  unfold gl
  exact List.map_congr_left fun i hi => h i (by simpa using hi)
theorem gl_false : List.replicate 256 false = gl (fun _ => false) := by
  apply List.ext_getElem
  · rw [List.length_replicate, gl_length]
  · intro j h1 h2
    rw [List.getElem_replicate, gl_get]
theorem runAt_congr {f g : Nat → Bool} (h : ∀ i, i < 256 → f i = g i) (i : Nat) (hi : i < 256) : runAt f i = runAt g i := by
  have he : ∀ y, y < 16 → ∀ d, d ≤ 16 → endAt f y d = endAt g y d := by
    intro y hy d
    induction d with
    | zero => intro _; rfl
    | succ d ih =>
      intro hd
      simp only [endAt]
      rw [h (16 * y + (15 - d)) (by omega), ih (by omega)]
  have hs : startB f i = startB g i := by
    unfold startB
    rw [h i hi, h (i - 1) (by omega)]
  unfold runAt endOf
  rw [hs, he (i / 16) (by omega) _ (by omega)]
theorem runsL_congr {f g : Nat → Bool} (h : ∀ i, i < 256 → f i = g i) : runsL f = runsL g := by
  unfold runsL runsUpto
  have : ∀ l : List Nat, (∀ i ∈ l, i < 256) → l.filterMap (runAt f) = l.filterMap (runAt g) := by
    intro l
    induction l with
    | nil => intro _; rfl
    | cons a t ih =>
      intro hl
      rw [List.filterMap_cons, List.filterMap_cons, runAt_congr h a (hl a (by simp)), ih (fun i hi => hl i (by simp [hi]))]
  exact this _ (fun i hi => by simpa using hi)

theorem start_of (f : Nat → Bool) (y : Nat) (c : Nat) (hc : c < 16) (hf : f (16 * y + c) = true) : ∃ a, a ≤ c ∧ startB f (16 * y + a) = true ∧ ∀ i, a ≤ i → i ≤ c → f (16 * y + i) = true := by
  induction c with
  | zero =>
    refine ⟨0, Nat.le_refl _, ?_, fun i _ h => ?_⟩
    · unfold startB
      rw [hf, decide_eq_true (show (16 * y + 0) % 16 = 0 by omega)]
      rfl
    · obtain rfl : i = 0 := by omega
      exact hf
  | succ c ih =>
    cases hp : f (16 * y + c) with
    | true =>
      obtain ⟨a, h1, h2, h3⟩ := ih (by omega) hp
      refine ⟨a, by omega, h2, fun i h4 h5 => ?_⟩
      rcases Nat.lt_or_ge c i with h | h
      · obtain rfl : i = c + 1 := by omega
        exact hf
      · exact h3 i h4 h
    | false =>
      refine ⟨c + 1, Nat.le_refl _, ?_, fun i h4 h5 => ?_⟩
      · unfold startB
        rw [hf, show 16 * y + (c + 1) - 1 = 16 * y + c by omega, hp]
        simp
      · obtain rfl : i = c + 1 := by omega
        exact hf
theorem mem_runsL (f : Nat → Bool) (r : S45) : r ∈ runsL f ↔ ∃ s, s < 256 ∧ startB f s = true ∧ r = ⟨(s / 16 : Nat), (s % 16 : Nat), (endOf f (s / 16) (s % 16) : Nat)⟩ := by
  unfold runsL runsUpto
  rw [List.mem_filterMap]
  constructor
  · rintro ⟨s, hs, h⟩
    unfold runAt at h
    split at h
    · rename_i hst
      exact ⟨s, by simpa using hs, hst, (Option.some.inj h).symm⟩
    · cases h
  · rintro ⟨s, hs, hst, rfl⟩
    exact ⟨s, by simpa using hs, by unfold runAt; rw [if_pos hst]⟩
theorem start_true {f : Nat → Bool} {s : Nat} (h : startB f s = true) : f s = true ∧ (s % 16 = 0 ∨ f (s - 1) = false) := by
  unfold startB at h
  simp only [Bool.and_eq_true, Bool.or_eq_true, decide_eq_true_eq, Bool.not_eq_true'] at h
  exact h
theorem gridF_runsL (f : Nat → Bool) (i : Nat) (hi : i < 256) : gridF (runsL f) i = f i := by
  rw [Bool.eq_iff_iff]
  unfold gridF
  rw [List.any_eq_true]
  constructor
  · rintro ⟨r, hr, hin⟩
    obtain ⟨s, hs, hst, rfl⟩ := (mem_runsL f r).1 hr
    unfold inRun at hin
    simp only [Bool.and_eq_true, decide_eq_true_eq] at hin
    obtain ⟨⟨h1, h2⟩, h3⟩ := hin
    have := (endOf_facts f (s / 16) (16 - s % 16) (s % 16) (by omega) rfl).2.2.1 (i % 16) (by omega) (by omega)
    rwa [show 16 * (s / 16) + i % 16 = i by omega] at this
  · intro hf
    obtain ⟨a, h1, h2, h3⟩ := start_of f (i / 16) (i % 16) (by omega) (by rwa [show 16 * (i / 16) + i % 16 = i by omega])
    refine ⟨⟨((16 * (i / 16) + a) / 16 : Nat), ((16 * (i / 16) + a) % 16 : Nat), (endOf f ((16 * (i / 16) + a) / 16) ((16 * (i / 16) + a) % 16) : Nat)⟩, (mem_runsL f _).2 ⟨_, by omega, h2, rfl⟩, ?_⟩
    have e1 : (16 * (i / 16) + a) / 16 = i / 16 := by omega
    have e2 : (16 * (i / 16) + a) % 16 = a := by omega
    rw [e1, e2]
    have hlt : i % 16 < endOf f (i / 16) a := by
      obtain ⟨g1, g2, g3, g4⟩ := endOf_facts f (i / 16) (16 - a) a (by omega) rfl
      rcases Nat.lt_or_ge (i % 16) (endOf f (i / 16) a) with h | h
      · exact h
      · have := h3 (endOf f (i / 16) a) g1 h
        rw [g4 (by omega)] at this
        cases this
    unfold inRun
    simp only [Bool.and_eq_true, decide_eq_true_eq]
    exact ⟨⟨by trivial, by omega⟩, by omega⟩
theorem runsL_valid (f : Nat → Bool) : Valid (runsL f) := by
  constructor
  · intro r hr
    obtain ⟨s, hs, hst, rfl⟩ := (mem_runsL f r).1 hr
    have h := start_true hst
    have hgt := endOf_gt f (s / 16) (s % 16) (by omega) (by rw [show 16 * (s / 16) + s % 16 = s by omega]; exact h.1)
    have hle := (endOf_facts f (s / 16) (16 - s % 16) (s % 16) (by omega) rfl).2.1
    unfold okRun
    simp only []
    omega
  · unfold runsL runsUpto
    rw [List.pairwise_filterMap]
    refine List.Pairwise.imp ?_ List.pairwise_lt_range
    intro s t hlt a ha b hb
    unfold runAt at ha hb
    split at ha
    · split at hb
      · rename_i hs ht
        obtain rfl := Option.some.inj ha
        obtain rfl := Option.some.inj hb
        unfold before
        simp only []
        by_cases hrow : s / 16 = t / 16
        · right
          refine ⟨by omega, ?_⟩
          have h1 := start_true ht
          have h2 := h1.2
          rcases h2 with h2 | h2
          · omega
          · obtain ⟨g1, g2, g3, g4⟩ := endOf_facts f (s / 16) (16 - s % 16) (s % 16) (by omega) rfl
            rcases Nat.lt_or_ge (endOf f (s / 16) (s % 16)) (t % 16) with h3 | h3
            · omega
            · have := g3 (t % 16 - 1) (by omega) (by omega)
              rw [show 16 * (s / 16) + (t % 16 - 1) = t - 1 by omega, h2] at this
              cases this
        · left
          omega
      · cases hb
    · cases ha
theorem inRun_iff (r : S45) (i : Nat) : inRun r i = true ↔ r.f0 = (i / 16 : Nat) ∧ r.f1 ≤ (i % 16 : Nat) ∧ ((i % 16 : Nat) : Int) < r.f2 := by
  unfold inRun
  simp only [Bool.and_eq_true, decide_eq_true_eq]
  exact ⟨fun h => ⟨h.1.1, h.1.2, h.2⟩, fun h => ⟨⟨h.1, h.2.1⟩, h.2.2⟩⟩
theorem gridF_cons (r : S45) (t : List S45) (i : Nat) : gridF (r :: t) i = (inRun r i || gridF t i) := by simp [gridF]
theorem gridF_iff (l : List S45) (i : Nat) : gridF l i = true ↔ ∃ r ∈ l, inRun r i = true := by
  unfold gridF
  rw [List.any_eq_true]
theorem vTail {r : S45} {t : List S45} (h : Valid (r :: t)) : Valid t := ⟨fun x hx => h.1 x (by simp [hx]), (List.pairwise_cons.1 h.2).2⟩
theorem vHead {r : S45} {t : List S45} (h : Valid (r :: t)) : okRun r := h.1 r (by simp)
theorem vApart {r : S45} {t : List S45} (h : Valid (r :: t)) (i : Nat) (h1 : inRun r i = true) : gridF t i = false := by
  rw [Bool.eq_false_iff]
  intro h2
  obtain ⟨q, hq, hi⟩ := (gridF_iff t i).1 h2
  have hb := (List.pairwise_cons.1 h.2).1 q hq
  have a1 := (inRun_iff r i).1 h1
  have a2 := (inRun_iff q i).1 hi
  unfold before at hb
  omega
/-- The first pixel of a region. -/
theorem vFirst {r : S45} {t : List S45} (h : Valid (r :: t)) (i : Nat) (hi : gridF (r :: t) i = true) : r.f0 < (i / 16 : Nat) ∨ (r.f0 = (i / 16 : Nat) ∧ r.f1 ≤ (i % 16 : Nat)) := by
  have hr := (vHead h)
  rw [gridF_cons, Bool.or_eq_true] at hi
  rcases hi with hi | hi
  · have := (inRun_iff r i).1 hi
    omega
  · obtain ⟨q, hq, hqi⟩ := (gridF_iff t i).1 hi
    have hb := (List.pairwise_cons.1 h.2).1 q hq
    have a2 := (inRun_iff q i).1 hqi
    unfold before okRun at *
    omega
theorem run_first (r : S45) (h : okRun r) : inRun r (16 * r.f0.toNat + r.f1.toNat) = true ∧ 16 * r.f0.toNat + r.f1.toNat < 256 := by
  unfold okRun at h
  rw [inRun_iff]
  omega
theorem vEnds {r : S45} {t : List S45} (h : Valid (r :: t)) (h16 : r.f2 < 16) : gridF (r :: t) (16 * r.f0.toNat + r.f2.toNat) = false := by
  have hr := (vHead h)
  unfold okRun at hr
  rw [Bool.eq_false_iff]
  intro hi
  obtain ⟨q, hq, hqi⟩ := (gridF_iff (r :: t) _).1 hi
  have a2 := (inRun_iff q _).1 hqi
  rcases List.mem_cons.1 hq with rfl | hq
  · omega
  · have hb := (List.pairwise_cons.1 h.2).1 q hq
    unfold before at hb
    omega
theorem run_pix (r : S45) (h : okRun r) (c : Nat) (h1 : r.f1 ≤ (c : Int)) (h2 : (c : Int) < r.f2) : inRun r (16 * r.f0.toNat + c) = true ∧ 16 * r.f0.toNat + c < 256 := by
  unfold okRun at h
  rw [inRun_iff]
  omega
theorem valid_unique : ∀ (l l' : List S45), Valid l → Valid l' → (∀ i, i < 256 → gridF l i = gridF l' i) → l = l'
  | [], [], _, _, _ => rfl
  | [], r' :: t', _, h', hg => by
    have h1 := run_first r' (vHead h')
    have := hg _ h1.2
    rw [gridF_cons, h1.1] at this
    simp [gridF] at this
  | r :: t, [], h, _, hg => by
    have h1 := run_first r (vHead h)
    have := hg _ h1.2
    rw [gridF_cons, h1.1] at this
    simp [gridF] at this
  | r :: t, r' :: t', h, h', hg => by
    have hr := (vHead h)
    have hr' := (vHead h')
    have p1 := run_first r hr
    have p2 := run_first r' hr'
    have q1 := (vFirst h') _ (by rw [← hg _ p1.2, gridF_cons, p1.1]; rfl)
    have q2 := (vFirst h) _ (by rw [hg _ p2.2, gridF_cons, p2.1]; rfl)
    have hrow : r.f0 = r'.f0 ∧ r.f1 = r'.f1 := by
      unfold okRun at hr hr'
      omega
    have hend : r.f2 = r'.f2 := by
      rcases Int.lt_trichotomy r.f2 r'.f2 with hh | hh | hh
      · have e1 := (vEnds h) (by unfold okRun at hr'; omega)
        have e2 := run_pix r' hr' r.f2.toNat (by unfold okRun at hr; omega) (by unfold okRun at hr; omega)
        rw [← hrow.1] at e2
        have := hg _ e2.2
        rw [e1, gridF_cons, e2.1] at this
        simp at this
      · exact hh
      · have e1 := (vEnds h') (by unfold okRun at hr; omega)
        have e2 := run_pix r hr r'.f2.toNat (by unfold okRun at hr'; omega) (by unfold okRun at hr'; omega)
        rw [hrow.1] at e2
        have := hg _ e2.2
        rw [e1, gridF_cons, e2.1] at this
        simp at this
    have hrr : r = r' := by
      cases r
      cases r'
      simp only [] at hrow hend
      obtain ⟨rfl, rfl⟩ := hrow
      subst hend
      rfl
    subst hrr
    congr 1
    refine valid_unique t t' (vTail h) (vTail h') fun i hi => ?_
    have := hg i hi
    rw [gridF_cons, gridF_cons] at this
    cases hin : inRun r i with
    | true => rw [(vApart h) i hin, (vApart h') i hin]
    | false => rwa [hin, Bool.false_or, Bool.false_or] at this
theorem runsL_nil_iff (f : Nat → Bool) : runsL f = [] ↔ ∀ i, i < 256 → f i = false := by
  constructor
  · intro h i hi
    rw [← gridF_runsL f i hi, h]
    rfl
  · intro h
    refine valid_unique _ _ (runsL_valid _) ⟨fun r hr => by simp at hr, List.Pairwise.nil⟩ fun i hi => ?_
    rw [gridF_runsL f i hi, h i hi]
    rfl
theorem combined_val (l : List S45) (hv : Valid l) (g : Nat → Bool) (k : Int) (h0 : 0 ≤ k) (h3 : k ≤ 3) : laws_combined.f l (runsL g) k = some (runsL (combF k (gridF l) g)) := by
  unfold laws_combined.f impl_CombineRegions.f
  rw [if_pos ⟨hv, runsL_valid g, h0, h3⟩]
  refine congrArg some (runsL_congr fun i hi => ?_)
  unfold combF
  rw [gridF_runsL g i hi]
theorem rdN (l : List Int) (k : Nat) (h : k < l.length) : rd l (k : Int) = l[k] := by
  simp [rd, List.getD_eq_getElem?_getD, List.getElem?_eq_getElem h]
theorem take_snocN {α : Type} (l : List α) (k : Nat) (h : k < l.length) : l.take (k + 1) = l.take k ++ [l[k]] := by
  rw [List.take_succ_eq_append_getElem h]
/-- A code that a reader reads. -/
def CodeOk (b : List Int) : Prop := b.length ≤ 2000 ∧ ∀ x ∈ b, 0 ≤ x ∧ x ≤ 255
theorem code_rd (b : List Int) (h : CodeOk b) (i : Int) (h0 : 0 ≤ i) (h1 : i < b.length) : 0 ≤ rd b i ∧ rd b i ≤ 255 := by
  obtain ⟨n, rfl⟩ := Int.eq_ofNat_of_zero_le h0
  rw [rdN b n (by omega)]
  exact h.2 _ (List.getElem_mem _)
theorem xor_nonneg (a b : Int) (ha : 0 ≤ a) (ha1 : a < 4611686018427387904) (hb : 0 ≤ b) (hb1 : b < 4611686018427387904) : 0 ≤ Go.bits .xor .i64 a b := by
  obtain ⟨n, rfl⟩ := Int.eq_ofNat_of_zero_le ha
  obtain ⟨m, rfl⟩ := Int.eq_ofNat_of_zero_le hb
  have hx : n ^^^ m < 2 ^ 62 := Nat.xor_lt_two_pow (by omega) (by omega)
  have e : Go.bits .xor .i64 (n : Int) (m : Int) = ((n ^^^ m : Nat) : Int) := by
    have hp : (2 : Nat) ^ IntKind.i64.bits = 18446744073709551616 := by decide
    have ha' : n % 2 ^ IntKind.i64.bits = n := Nat.mod_eq_of_lt (by omega)
    have hb' : m % 2 ^ IntKind.i64.bits = m := Nat.mod_eq_of_lt (by omega)
    simp only [bits, BitVec.ofInt_natCast, BitVec.toNat_xor, BitVec.toNat_ofNat, ha', hb']
    rw [IntKind.wrap_i64]
    omega
  rw [e]
  omega
theorem spec_reader_pick.ev (b : List Int) (h : CodeOk b) (p n : Int) (hp0 : 0 ≤ p) (hp1 : p < 1000000000) (hn : n ≤ 1000000) : ∃ v, Ev (fun k => spec_reader_pick.f k b p n) (v, p + 1) ∧ 0 ≤ v ∧ (v < n ∨ v = 0) := by
  have hw : wrap64 (p + 1) = p + 1 := wrapIn (by omega) (by omega)
  have hw1 : wrap64 (p + 1 - 1) = p := by rw [wrapIn (by omega) (by omega)]; omega
  unfold spec_reader_pick.f
  rw [hw]
  by_cases hn1 : n < 1
  · refine ⟨0, evPos hn1 (Ev.step (fun k => by simp only [spec_reader_pick.j0]; rfl) (evPos (by trivial) (evRet rfl))), by omega, .inr rfl⟩
  by_cases hb : (b.length : Int) = 0
  · refine ⟨0, evNeg hn1 (Ev.step (fun k => by simp only [spec_reader_pick.j0]; rfl) (evPos (by simp [hb]) (evRet rfl))), by omega, .inr rfl⟩
  have hbf : ((b.length : Int) == 0) = false := by simpa using hb
  have hl := h.1
  by_cases hlt : p < (b.length : Int)
  · have hr := code_rd b h p hp0 hlt
    refine ⟨Int.tmod (wrap64 (rd b p)) n, evNeg hn1 (Ev.step (fun k => by simp only [spec_reader_pick.j0, hbf, hw1]; rfl) (evNeg (by simp) (evPos hlt (evPos hp0 (evNeg (by omega) (evRet rfl)))))), ?_, .inl ?_⟩
    · exact Int.tmod_nonneg _ (by rw [wrapIn (by omega) (by omega)]; omega)
    · exact Int.tmod_lt_of_pos _ (by omega)
  · have hm0 : 0 ≤ Int.tmod p (b.length : Int) := Int.tmod_nonneg _ hp0
    have hm1 : Int.tmod p (b.length : Int) < b.length := Int.tmod_lt_of_pos _ (by omega)
    have hq : wrap64 (wrap64 (p * 7) + 3) = p * 7 + 3 := by rw [wrapIn (x := p * 7) (by omega) (by omega), wrapIn (by omega) (by omega)]
    have hk0 : 0 ≤ Int.tmod (p * 7 + 3) (b.length : Int) := Int.tmod_nonneg _ (by omega)
    have hk1 : Int.tmod (p * 7 + 3) (b.length : Int) < b.length := Int.tmod_lt_of_pos _ (by omega)
    have r1 := code_rd b h _ hm0 hm1
    have r2 := code_rd b h _ hk0 hk1
    have hd0 : 0 ≤ Int.tdiv p (b.length : Int) := Int.tdiv_nonneg hp0 (by omega)
    have hd1 : Int.tdiv p (b.length : Int) ≤ p := by
      have := Int.natAbs_tdiv_le_natAbs p (b.length : Int)
      omega
    refine ⟨_, evNeg hn1 (Ev.step (fun k => by simp only [spec_reader_pick.j0, hbf, hw1, hq]; rfl) (evNeg (by simp) (evNeg hlt (evNeg hb (evPos hm0 (evPos hm1 (evPos hk0 (evPos hk1 (evNeg (by omega) (evRet rfl)))))))))), ?_, .inl (Int.tmod_lt_of_pos _ (by omega))⟩
    generalize rd b (Int.tmod p (b.length : Int)) = u at *
    generalize rd b (Int.tmod (p * 7 + 3) (b.length : Int)) = t at *
    generalize Int.tdiv p (b.length : Int) = q at *
    rw [wrapIn (x := u) (by omega) (by omega), wrapIn (x := t) (by omega) (by omega), wrapIn (x := q) (by omega) (by omega), wrapIn (x := u * 131) (by omega) (by omega), wrapIn (x := t * 1117) (by omega) (by omega), wrapIn (x := u * 131 + t * 1117) (by omega) (by omega), wrapIn (x := p * 29) (by omega) (by omega), wrapIn (x := u * 131 + t * 1117 + p * 29) (by omega) (by omega), wrapIn (x := q * 53) (by omega) (by omega), wrapIn (x := u * 131 + t * 1117 + p * 29 + q * 53) (by omega) (by omega)]
    generalize hX : u * 131 + t * 1117 + p * 29 + q * 53 = X
    have hX0 : 0 ≤ X := by omega
    have hX1 : X < 4611686018427387904 := by omega
    have hT0 : 0 ≤ Int.tdiv X 64 := Int.tdiv_nonneg hX0 (by omega)
    have hT1 : Int.tdiv X 64 ≤ X := by
      have := Int.natAbs_tdiv_le_natAbs X 64
      omega
    rw [wrapIn (x := Int.tdiv X 64) (by omega) (by omega)]
    exact Int.tmod_nonneg _ (xor_nonneg _ _ hX0 hX1 hT0 (by omega))
theorem spec_newReader.ev (l : List Int) (hw : ∀ x ∈ l, (Lit.int .u8 x).wf = true) : ∃ b, spec_newReader.f l = some (b, 0) ∧ CodeOk b := by
  have hx : ∀ x ∈ l, 0 ≤ x ∧ x ≤ 255 := fun x hx => by
    have := hw x hx
    have hmin : IntKind.u8.min = 0 := rfl
    have hmax : IntKind.u8.max = 255 := rfl
    simp only [Lit.wf, Bool.and_eq_true, decide_eq_true_eq] at this
    omega
  unfold spec_newReader.f
  by_cases h : (l.length : Int) > 2000
  · rw [if_pos h, if_pos (by omega)]
    exact ⟨_, rfl, by simp; omega, fun x h2 => hx x (List.mem_of_mem_take h2)⟩
  · rw [if_neg h]
    exact ⟨_, rfl, by omega, hx⟩

theorem spec_reader_one.ev (b : List Int) (h : CodeOk b) (p : Int) (hp0 : 0 ≤ p) (hp1 : p < 1000000000) (l : List Int) (hl0 : 0 < l.length) (hl1 : l.length ≤ 1000) : ∃ v, Ev (fun k => spec_reader_one.f k b p l) (v, p + 1) ∧ v ∈ l := by
  obtain ⟨v, hv, h0, h1⟩ := spec_reader_pick.ev b h p (l.length : Int) hp0 hp1 (by omega)
  have hlt : v < l.length := by omega
  refine ⟨rd l v, ?_, ?_⟩
  · unfold spec_reader_one.f
    exact evBind hv (evPos h0 (evPos hlt (evRet rfl)))
  · obtain ⟨n, rfl⟩ := Int.eq_ofNat_of_zero_le h0
    rw [rdN l n (by omega)]
    exact List.getElem_mem _

theorem runsL_length (f : Nat → Bool) : (runsL f).length ≤ 256 := runsUpto_length f 256

/-- The reference's runs of a row, from column x on. -/
def RowAt (f : Nat → Bool) (y : Nat) (out : List S45) (fr : Int) (x : Nat) : Prop :=
  (fr = -1 ∧ (x = 0 ∨ f (16 * y + x - 1) = false) ∧ out = runsUpto f (16 * y + x)) ∨
  ∃ a : Nat, fr = (a : Int) ∧ a < x ∧ (∀ i, a ≤ i → i < x → f (16 * y + i) = true) ∧ (a = 0 ∨ f (16 * y + a - 1) = false) ∧ out = runsUpto f (16 * y + a)
theorem endOf_eq (f : Nat → Bool) (y a x : Nat) (hax : a ≤ x) (hx : x ≤ 16) (h : ∀ i, a ≤ i → i < x → f (16 * y + i) = true) (he : x = 16 ∨ f (16 * y + x) = false) : endOf f y a = x := by
  obtain ⟨h1, h2, h3, h4⟩ := endOf_facts f y (16 - a) a (by omega) rfl
  rcases Nat.lt_trichotomy (endOf f y a) x with hh | hh | hh
  · have := h (endOf f y a) h1 hh
    rw [h4 (by omega)] at this
    cases this
  · exact hh
  · rcases he with he | he
    · omega
    · have := h3 x hax hh
      rw [he] at this
      cases this
theorem spec_runsOf.ev_l1 (f : Nat → Bool) (y : Nat) (hy : y < 16) (R : List S45) (hR : Ev (fun k => spec_runsOf.l0 k (gl f) (runsUpto f (16 * (y + 1))) ((y + 1 : Nat) : Int)) R) (d : Nat) : ∀ x out fr, x ≤ 17 → 17 - x = d → (x = 17 → fr = -1 ∧ out = runsUpto f (16 * (y + 1))) → (x ≤ 16 → RowAt f y out fr x) →
    Ev (fun k => spec_runsOf.l1 k (gl f) out (y : Int) fr (x : Int)) R := by
  have hwy : wrap64 ((y : Int) + 1) = ((y + 1 : Nat) : Int) := wrapSucc y (by omega)
  induction d with
  | zero =>
    intro x out fr hx hd h17 _
    obtain ⟨_, rfl⟩ := h17 (by omega)
    exact Ev.step (fun k => by simp only [spec_runsOf.l1, hwy]; rfl) (evNeg (by omega) hR)
  | succ d ih =>
    intro x out fr hx hd _ hrow
    have hrow := hrow (by omega)
    have hw : wrap64 ((x : Int) + 1) = ((x + 1 : Nat) : Int) := wrapSucc x (by omega)
    have hlen : ∀ n, (runsUpto f n).length < 5864062014805 ∨ 5864062014805 ≤ n := fun n => by have := runsUpto_length f n; omega
    refine Ev.step (fun k => by simp only [spec_runsOf.l1, hwy]; rfl) (evPos (by omega) ?_)
    -- the pixel there
    obtain ⟨p, hp, hgo⟩ : ∃ p : Bool, (x < 16 ∧ p = f (16 * y + x) ∨ x = 16 ∧ p = false) ∧ (Ev (fun k => spec_runsOf.j2 k (gl f) out (y : Int) fr (x : Int) p) R → Ev (fun k => if (x : Int) < 16 then (if 0 ≤ (wrap64 ((wrap64 ((y : Int) * 16)) + x)) then (if (wrap64 ((wrap64 ((y : Int) * 16)) + x)) < ((gl f).length : Int) then (spec_runsOf.j2 k (gl f) out (y : Int) fr (x : Int) (rdOf false (gl f) (wrap64 ((wrap64 ((y : Int) * 16)) + x)))) else (none)) else (none)) else (spec_runsOf.j2 k (gl f) out (y : Int) fr (x : Int) false)) R) := by
      by_cases h : x < 16
      · have hi : wrap64 ((wrap64 ((y : Int) * 16)) + x) = ((16 * y + x : Nat) : Int) := by rw [wrapIn (x := (y : Int) * 16) (by omega) (by omega), wrapIn (by omega) (by omega)]; omega
        refine ⟨f (16 * y + x), .inl ⟨h, rfl⟩, fun he => ?_⟩
        rw [hi]
        refine evPos (by omega) (evPos (by omega) (evPos (by rw [gl_length]; omega) ?_))
        rw [gl_rd f _ (by omega)]
        exact he
      · exact ⟨false, .inr ⟨by omega, rfl⟩, fun he => evNeg (by omega) he⟩
    refine hgo ?_
    have hnext : RowAt f y (if p = true then out else if fr = -1 then out else out ++ [⟨(y : Int), fr, (x : Int)⟩]) (if p = true then (if fr = -1 then (x : Int) else fr) else -1) (x + 1) ∨ x = 16 := by
      rcases hp with ⟨h16, hp⟩ | ⟨h16, _⟩
      · left
        rcases hrow with ⟨rfl, hprev, rfl⟩ | ⟨a, rfl, ha, hall, hprev, rfl⟩
        · cases hpv : p with
          | true =>
            right
            refine ⟨x, by simp, by omega, fun i h1 h2 => ?_, hprev, by simp⟩
            obtain rfl : i = x := by omega
            rw [← hp, hpv]
          | false =>
            left
            refine ⟨by simp, .inr (by rw [show 16 * y + (x + 1) - 1 = 16 * y + x by omega, ← hp, hpv]), ?_⟩
            rw [if_neg (by simp), if_pos rfl, show 16 * y + (x + 1) = 16 * y + x + 1 by omega, runsUpto_false f _ (by rw [← hp, hpv])]
        · have hne : ¬ ((a : Int) = -1) := by omega
          cases hpv : p with
          | true =>
            right
            refine ⟨a, by simp [hne], by omega, fun i h1 h2 => ?_, hprev, by simp⟩
            rcases Nat.lt_or_ge i x with h3 | h3
            · exact hall i h1 h3
            · obtain rfl : i = x := by omega
              rw [← hp, hpv]
          | false =>
            left
            have hf0 : f (16 * y + x) = false := by rw [← hp, hpv]
            have hend := endOf_eq f y a x (by omega) (by omega) hall (.inr hf0)
            refine ⟨by simp, .inr (by rw [show 16 * y + (x + 1) - 1 = 16 * y + x by omega]; exact hf0), ?_⟩
            have hrun := runsUpto_run f y a (by omega) (hall a (by omega) ha) hprev
            rw [hend] at hrun
            rw [if_neg (by simp), if_neg hne, show 16 * y + (x + 1) = 16 * y + x + 1 by omega, runsUpto_false f _ hf0, hrun]
      · exact .inr h16
    have hlast : x = 16 → (if p = true then (if fr = -1 then (x : Int) else fr) else (-1 : Int)) = -1 ∧ (if p = true then out else if fr = -1 then out else out ++ [⟨(y : Int), fr, (x : Int)⟩]) = runsUpto f (16 * (y + 1)) := by
      intro h16
      have hpf : p = false := by
        rcases hp with ⟨h, _⟩ | ⟨_, h⟩
        · omega
        · exact h
      subst hpf
      refine ⟨by simp, ?_⟩
      rw [if_neg (by simp)]
      rcases hrow with ⟨rfl, hprev, rfl⟩ | ⟨a, rfl, ha, hall, hprev, rfl⟩
      · rw [if_pos rfl, h16]
        rfl
      · rw [if_neg (by omega)]
        have hend := endOf_eq f y a x (by omega) (by omega) hall (.inl h16)
        have hrun := runsUpto_run f y a (by omega) (hall a (by omega) ha) hprev
        rw [hend] at hrun
        rw [← hrun, h16]
        rfl
    have hcont := ih (x + 1) (if p = true then out else if fr = -1 then out else out ++ [⟨(y : Int), fr, (x : Int)⟩]) (if p = true then (if fr = -1 then (x : Int) else fr) else -1) (by omega) (by omega) (fun h => hlast (by omega)) (fun h => by
      rcases hnext with h2 | h2
      · exact h2
      · omega)
    have hfr : fr = -1 ∨ 0 ≤ fr := by
      rcases hrow with ⟨rfl, _⟩ | ⟨a, rfl, _⟩
      · exact .inl rfl
      · exact .inr (by omega)
    have hol : out.length < 5864062014805 := by
      rcases hrow with ⟨_, _, rfl⟩ | ⟨a, _, _, _, _, rfl⟩
      · rcases hlen (16 * y + x) with h | h <;> omega
      · rcases hlen (16 * y + a) with h | h <;> omega
    cases p with
    | true =>
      rw [if_pos rfl, if_pos rfl] at hcont
      refine Ev.step (fun k => by simp only [spec_runsOf.j2]; rfl) ?_
      refine evPos (by trivial) ?_
      refine Ev.step (fun k => by simp only [spec_runsOf.j3, hw]; rfl) ?_
      rcases hfr with rfl | h0
      · rw [if_pos rfl] at hcont
        exact evPos (by simp) (evPos (by trivial) hcont)
      · rw [if_neg (by omega)] at hcont
        exact evNeg (by simp; omega) (evPos (by trivial) hcont)
    | false =>
      simp only [Bool.false_eq_true, if_false] at hcont
      refine Ev.step (fun k => by simp only [spec_runsOf.j2]; rfl) ?_
      refine evNeg (by first | exact not_false | simp) ?_
      refine Ev.step (fun k => by simp only [spec_runsOf.j3, hw]; rfl) ?_
      refine evNeg (by first | exact not_false | simp) ?_
      refine evNeg (by first | exact not_false | simp) ?_
      rcases hfr with rfl | h0
      · rw [if_pos rfl] at hcont
        exact evNeg (by omega) hcont
      · rw [if_neg (by omega)] at hcont
        exact evPos (by omega) (evPos hol hcont)
theorem spec_runsOf.ev_l0 (f : Nat → Bool) (d : Nat) : ∀ y, y ≤ 16 → 16 - y = d → Ev (fun k => spec_runsOf.l0 k (gl f) (runsUpto f (16 * y)) (y : Int)) (runsL f) := by
  induction d with
  | zero =>
    intro y hy hd
    obtain rfl : y = 16 := by omega
    exact Ev.step (fun k => by simp only [spec_runsOf.l0]; rfl) (evNeg (by omega) (evRet rfl))
  | succ d ih =>
    intro y hy hd
    refine Ev.step (fun k => by simp only [spec_runsOf.l0]; rfl) (evPos (by omega) ?_)
    have := spec_runsOf.ev_l1 f y (by omega) (runsL f) (ih (y + 1) (by omega) (by omega)) 17 0 (runsUpto f (16 * y)) (-1) (by omega) rfl (fun h => by omega) (fun _ => .inl ⟨rfl, .inl rfl, rfl⟩)
    exact this
theorem spec_runsOf.ev (f : Nat → Bool) : Ev (fun k => spec_runsOf.f k (gl f)) (runsL f) := spec_runsOf.ev_l0 f 16 0 (by omega) rfl

theorem inRange_val (a lo hi : Int) : spec_inRange.f a lo hi = some (decide (lo ≤ a ∧ a ≤ hi)) := by
  unfold spec_inRange.f
  split
  · rename_i h; simp [h]
  · rename_i h; simp [h]

theorem onGrid_val (a b : Int) : spec_onGrid.f a b = some (decide ((0 ≤ a ∧ a ≤ 15) ∧ (0 ≤ b ∧ b ≤ 15))) := by
  unfold spec_onGrid.f
  rw [inRange_val, inRange_val]
  simp only [Option.bind_some]
  by_cases h : 0 ≤ a ∧ a ≤ 15
  · simp [h]
  · simp [h]

theorem spec_DiscRegion.ev_l0 (x y r : Int) (hk : discOk x y r) (d : Nat) : ∀ p, p ≤ 256 → 256 - p = d →
    Ev (fun k => spec_DiscRegion.l0 k x y r (gl fun j => decide (j < p) && discF x y r j) (p : Int)) (runsL (discF x y r)) := by
  obtain ⟨h1, h2, h3, h4, h5, h6⟩ := hk
  induction d with
  | zero =>
    intro p hp hd
    obtain rfl : p = 256 := by omega
    refine Ev.step (fun k => by simp only [spec_DiscRegion.l0]; rfl) (evNeg (by rw [gl_length]; omega) ?_)
    rw [gl_congr (g := discF x y r) (fun i hi => by rw [decide_eq_true hi, Bool.true_and])]
    exact evBind (spec_runsOf.ev _) (evRet rfl)
  | succ d ih =>
    intro p hp hd
    have hw : wrap64 ((p : Int) + 1) = ((p + 1 : Nat) : Int) := wrapSucc p (by omega)
    have ht : Int.tmod (p : Int) 16 = ((p % 16 : Nat) : Int) := by rw [Int.tmod_eq_emod_of_nonneg (by omega)]; omega
    have hq : Int.tdiv (p : Int) 16 = ((p / 16 : Nat) : Int) := by rw [Int.tdiv_eq_ediv_of_nonneg (by omega)]; omega
    have q1 := sq_bound ((p % 16 : Nat) : Int) x (by omega) (by omega) h1 (by omega)
    have q2 := sq_bound ((p / 16 : Nat) : Int) y (by omega) (by omega) h3 (by omega)
    have q3 := sq_bound r 0 h5 h6 (by omega) (by omega)
    rw [Int.sub_zero] at q3
    have := ih (p + 1) (by omega) (by omega)
    refine Ev.step (f := fun k => spec_DiscRegion.l0 k x y r (gl fun j => decide (j < p + 1) && discF x y r j) ((p + 1 : Nat) : Int)) (fun k => ?_) this
    simp only [spec_DiscRegion.l0, hw, ht, hq]
    rw [if_pos (by rw [gl_length]; omega), if_pos (by omega), wrapIn (x := ((p / 16 : Nat) : Int)) (by omega) (by omega), wrapIn (x := ((p % 16 : Nat) : Int) - x) (by omega) (by omega), wrapIn (x := ((p / 16 : Nat) : Int) - y) (by omega) (by omega)]
    rw [wrapIn (x := (((p % 16 : Nat) : Int) - x) * (((p % 16 : Nat) : Int) - x)) (by omega) (by omega), wrapIn (x := (((p / 16 : Nat) : Int) - y) * (((p / 16 : Nat) : Int) - y)) (by omega) (by omega), wrapIn (x := r * r) (by omega) (by omega)]
    rw [wrapIn (x := (((p % 16 : Nat) : Int) - x) * (((p % 16 : Nat) : Int) - x) + (((p / 16 : Nat) : Int) - y) * (((p / 16 : Nat) : Int) - y)) (by omega) (by omega)]
    rw [Int.toNat_natCast, gl_set]
    congr 1
    refine gl_congr fun i hi => ?_
    by_cases e : i = p
    · subst e
      rw [if_pos rfl, decide_eq_true (show i < i + 1 by omega), Bool.true_and]
      rfl
    · rw [if_neg e]
      congr 1
      exact decide_eq_decide.mpr (by omega)
theorem spec_DiscRegion.ev (x y r : Int) : Ev (fun k => spec_DiscRegion.f k x y r) (if discOk x y r then runsL (discF x y r) else []) := by
  have hno : ¬ discOk x y r → Ev (fun k => spec_DiscRegion.j0 k x y r true) (if discOk x y r then runsL (discF x y r) else []) := fun h => by
    rw [if_neg h]
    exact Ev.step (fun k => by simp only [spec_DiscRegion.j0]; rfl) (evPos (by trivial) (evRet rfl))
  unfold spec_DiscRegion.f
  refine evFix (onGrid_val x y) (evIf (fun h => ?_) (fun h => ?_))
  · rw [decide_eq_true_eq] at h
    refine evFix (inRange_val r 0 16) ?_
    by_cases h2 : 0 ≤ r ∧ r ≤ 16
    · have hk : discOk x y r := ⟨h.1.1, by omega, h.2.1, by omega, h2.1, h2.2⟩
      rw [decide_eq_true h2, if_pos hk]
      refine Ev.step (fun k => by simp only [spec_DiscRegion.j0]; rfl) ?_
      refine evNeg (by simp) (evPos (by omega) ?_)
      rw [gl_false]
      have := spec_DiscRegion.ev_l0 x y r hk 256 0 (by omega) (by omega)
      rw [gl_congr (g := fun _ => false) (fun i hi => by rw [decide_eq_false (by omega)]; rfl)] at this
      exact this
    · rw [decide_eq_false h2]
      exact hno fun hk => h2 ⟨hk.2.2.2.2.1, hk.2.2.2.2.2⟩
  · rw [decide_eq_true_eq] at h
    exact hno fun hk => h ⟨⟨hk.1, by have := hk.2.1; omega⟩, hk.2.2.1, by have := hk.2.2.2.1; omega⟩

theorem gl_of (l : List Bool) (h : l.length = 256) : l = gl (fun i => l.getD i false) := by
  apply List.ext_getElem
  · rw [gl_length, h]
  · intro i h1 h2
    rw [gl_get]
    simp [List.getD_eq_getElem?_getD, List.getElem?_eq_getElem h1]
theorem runsOf_any (l : List Bool) (h : l.length = 256) : ∃ r, Ev (fun k => spec_runsOf.f k l) r ∧ r.length ≤ 256 := by
  rw [gl_of l h]
  exact ⟨_, spec_runsOf.ev _, runsL_length _⟩
theorem spec_randomRegion.ev_j3 (b : List Int) (hb : CodeOk b) (x : List Bool) (hx : x.length = 256) (p : Int) (h0 : 0 ≤ p) (h1 : p ≤ 900000) :
    ∃ r q, Ev (fun k => spec_randomRegion.j3 k x b p) (r, q) ∧ 0 ≤ q ∧ q ≤ p + 2 ∧ r.length ≤ 256 := by
  obtain ⟨v, hv, _, _⟩ := spec_reader_pick.ev b hb p 10 h0 (by omega) (by omega)
  by_cases e : v = 0
  · obtain ⟨u, hu, hm⟩ := spec_reader_one.ev b hb (p + 1) (by omega) (by omega) [15, 240, 255, 0] (by simp) (by simp)
    have hu2 : 0 ≤ u ∧ u < 256 := by simp at hm; omega
    obtain ⟨r, hr, hl⟩ := runsOf_any (x.set u.toNat true) (by simpa using hx)
    refine ⟨r, p + 1 + 1, ?_, by omega, by omega, hl⟩
    refine Ev.step (fun k => by simp only [spec_randomRegion.j3]; rfl) (evBind hv ?_)
    refine evPos e (evBind hu ?_)
    refine evPos hu2.1 ?_
    refine evPos (by omega) (evBind hr (evRet rfl))
  · obtain ⟨r, hr, hl⟩ := runsOf_any x hx
    refine ⟨r, p + 1, ?_, by omega, by omega, hl⟩
    refine Ev.step (fun k => by simp only [spec_randomRegion.j3]; rfl) (evBind hv ?_)
    exact evNeg e (evBind hr (evRet rfl))
theorem spec_randomRegion.ev_l0 (b : List Int) (hb : CodeOk b) (n : Nat) : ∀ (x : List Bool) (p : Int), x.length = 256 → 0 ≤ p → p + 2 * n ≤ 900000 →
    ∃ r q, Ev (fun k => spec_randomRegion.l0 k x (n : Int) b p) (r, q) ∧ 0 ≤ q ∧ q ≤ p + 2 * n + 2 ∧ r.length ≤ 256 := by
  induction n with
  | zero =>
    intro x p hx h0 h1
    obtain ⟨r, q, hr, q0, q1, hl⟩ := spec_randomRegion.ev_j3 b hb x hx p h0 (by omega)
    exact ⟨r, q, Ev.step (fun k => by simp only [spec_randomRegion.l0]; rfl) (evNeg (by omega) hr), q0, by omega, hl⟩
  | succ n ih =>
    intro x p hx h0 h1
    obtain ⟨v, hv, v0, v1⟩ := spec_reader_pick.ev b hb p 6 h0 (by omega) (by omega)
    obtain ⟨u, hu, u0, u1⟩ := spec_reader_pick.ev b hb (p + 1) 6 (by omega) (by omega) (by omega)
    have hi : wrap64 ((wrap64 (v * 16)) + u) = v * 16 + u := by rw [wrapIn (x := v * 16) (by omega) (by omega), wrapIn (by omega) (by omega)]
    have hn : wrap64 (((n + 1 : Nat) : Int) - 1) = (n : Int) := by rw [wrapIn (by omega) (by omega)]; omega
    obtain ⟨r, q, hr, q0, q1, hl⟩ := ih (x.set (v * 16 + u).toNat true) (p + 1 + 1) (by simpa using hx) (by omega) (by omega)
    refine ⟨r, q, ?_, q0, by omega, hl⟩
    refine Ev.step (fun k => by simp only [spec_randomRegion.l0, hn]; rfl) ?_
    refine evPos (by omega) (evBind hv (evBind hu ?_))
    simp only [hi]
    refine evPos (by omega) ?_
    exact evPos (by omega) hr
theorem spec_randomRegion.ev_l2 (b : List Int) (n : Nat) (p : Int) (C : List S45 → Int → Prop)
    (hnext : ∀ x : List Bool, x.length = 256 → ∃ r q, Ev (fun k => spec_randomRegion.l1 k x (n : Int) b p) (r, q) ∧ C r q) (hn : n ≤ 100000) (X Y : Int) (hX0 : 0 ≤ X) (hX1 : X ≤ 7) (hY0 : 0 ≤ Y) (hY1 : Y ≤ 7) (d : Nat) :
    ∀ (i : Nat) (x : List Bool), i ≤ 12 → 12 - i = d → x.length = 256 → ∃ r q, Ev (fun k => spec_randomRegion.l2 k x ((n + 1 : Nat) : Int) X Y (i : Int) b p) (r, q) ∧ C r q := by
  have hn1 : wrap64 (((n + 1 : Nat) : Int) - 1) = (n : Int) := by rw [wrapIn (by omega) (by omega)]; omega
  induction d with
  | zero =>
    intro i x hi hd hx
    obtain ⟨r, q, hr, hc⟩ := hnext x hx
    exact ⟨r, q, Ev.step (fun k => by simp only [spec_randomRegion.l2, hn1]; rfl) (evNeg (by omega) hr), hc⟩
  | succ d ih =>
    intro i x hi hd hx
    have hw : wrap64 ((i : Int) + 1) = ((i + 1 : Nat) : Int) := wrapSucc i (by omega)
    have ht : Int.tmod (i : Int) 4 = ((i % 4 : Nat) : Int) := by rw [Int.tmod_eq_emod_of_nonneg (by omega)]; omega
    have hq : Int.tdiv (i : Int) 4 = ((i / 4 : Nat) : Int) := by rw [Int.tdiv_eq_ediv_of_nonneg (by omega)]; omega
    have hidx : wrap64 ((wrap64 ((wrap64 ((wrap64 (Y + (wrap64 (Int.tdiv (i : Int) 4)))) * 16)) + X)) + (Int.tmod (i : Int) 4)) = (Y + (i / 4 : Nat)) * 16 + X + (i % 4 : Nat) := by
      rw [ht, hq, wrapIn (x := ((i / 4 : Nat) : Int)) (by omega) (by omega), wrapIn (x := Y + ((i / 4 : Nat) : Int)) (by omega) (by omega), wrapIn (x := (Y + ((i / 4 : Nat) : Int)) * 16) (by omega) (by omega), wrapIn (x := (Y + ((i / 4 : Nat) : Int)) * 16 + X) (by omega) (by omega), wrapIn (by omega) (by omega)]
    obtain ⟨r, q, hr, hc⟩ := ih (i + 1) (x.set ((Y + (i / 4 : Nat)) * 16 + X + (i % 4 : Nat) : Int).toNat true) (by omega) (by omega) (by simpa using hx)
    refine ⟨r, q, ?_, hc⟩
    refine Ev.step (fun k => by simp only [spec_randomRegion.l2, hw, hidx]; rfl) ?_
    refine evPos (by omega) ?_
    refine evPos (by omega) ?_
    exact evPos (by omega) hr
theorem spec_randomRegion.ev_l1 (b : List Int) (hb : CodeOk b) (n : Nat) : ∀ (x : List Bool) (p : Int), x.length = 256 → 0 ≤ p → p + 2 * n ≤ 90000 →
    ∃ r q, Ev (fun k => spec_randomRegion.l1 k x (n : Int) b p) (r, q) ∧ (0 ≤ q ∧ q ≤ p + 2 * n + 2 ∧ r.length ≤ 256) := by
  induction n with
  | zero =>
    intro x p hx h0 h1
    obtain ⟨r, q, hr, q0, q1, hl⟩ := spec_randomRegion.ev_j3 b hb x hx p h0 (by omega)
    exact ⟨r, q, Ev.step (fun k => by simp only [spec_randomRegion.l1]; rfl) (evNeg (by omega) hr), q0, by omega, hl⟩
  | succ n ih =>
    intro x p hx h0 h1
    obtain ⟨v, hv, v0, v1⟩ := spec_reader_pick.ev b hb p 8 h0 (by omega) (by omega)
    obtain ⟨u, hu, u0, u1⟩ := spec_reader_pick.ev b hb (p + 1) 8 (by omega) (by omega) (by omega)
    obtain ⟨r, q, hr, hc⟩ := spec_randomRegion.ev_l2 b n (p + 1 + 1) (fun r q => 0 ≤ q ∧ q ≤ p + 1 + 1 + 2 * n + 2 ∧ r.length ≤ 256) (fun x hx => ih x (p + 1 + 1) hx (by omega) (by omega)) (by omega) v u v0 (by omega) u0 (by omega) 12 0 x (by omega) rfl hx
    refine ⟨r, q, ?_, hc.1, by omega, hc.2.2⟩
    refine Ev.step (fun k => by simp only [spec_randomRegion.l1]; rfl) ?_
    refine evPos (by omega) (evBind hv (evBind hu ?_))
    exact hr
theorem spec_randomRegion.ev (b : List Int) (hb : CodeOk b) (p : Int) (h0 : 0 ≤ p) (h1 : p ≤ 80000) : ∃ r q, Ev (fun k => spec_randomRegion.f k b p) (r, q) ∧ 0 ≤ q ∧ q ≤ p + 100 ∧ r.length ≤ 256 := by
  obtain ⟨v, hv, v0, v1⟩ := spec_reader_pick.ev b hb p 4 h0 (by omega) (by omega)
  unfold spec_randomRegion.f
  by_cases e : v = 0
  · obtain ⟨u, hu, u0, u1⟩ := spec_reader_pick.ev b hb (p + 1) 8 (by omega) (by omega) (by omega)
    obtain ⟨t, ht, t0, t1⟩ := spec_reader_pick.ev b hb (p + 1 + 1) 8 (by omega) (by omega) (by omega)
    obtain ⟨s, hs, s0, s1⟩ := spec_reader_pick.ev b hb (p + 1 + 1 + 1) 5 (by omega) (by omega) (by omega)
    refine ⟨_, p + 1 + 1 + 1 + 1, evPos (by omega) (evFix rfl (evBind hv (evPos e (evBind hu (evBind ht (evBind hs (evBind (spec_DiscRegion.ev u t s) (evRet rfl)))))))), by omega, by omega, ?_⟩
    split
    · exact runsL_length _
    · simp
  by_cases e1 : v = 1
  · obtain ⟨u, hu, u0, u1⟩ := spec_reader_pick.ev b hb (p + 1) 12 (by omega) (by omega) (by omega)
    obtain ⟨n, rfl⟩ := Int.eq_ofNat_of_zero_le u0
    obtain ⟨r, q, hr, q0, q1, hl⟩ := spec_randomRegion.ev_l0 b hb n (List.replicate 256 false) (p + 1 + 1) (List.length_replicate ..) (by omega) (by omega)
    exact ⟨r, q, evPos (by omega) (evFix rfl (evBind hv (evNeg e (evPos e1 (evBind hu hr))))), q0, by omega, hl⟩
  · obtain ⟨u, hu, u0, u1⟩ := spec_reader_pick.ev b hb (p + 1) 5 (by omega) (by omega) (by omega)
    obtain ⟨n, rfl⟩ := Int.eq_ofNat_of_zero_le u0
    obtain ⟨r, q, hr, q0, q1, hl⟩ := spec_randomRegion.ev_l1 b hb n (List.replicate 256 false) (p + 1 + 1) (List.length_replicate ..) (by omega) (by omega)
    exact ⟨r, q, evPos (by omega) (evFix rfl (evBind hv (evNeg e (evNeg e1 (evBind hu hr))))), q0, by omega, hl⟩
theorem spec_anyRegion.ev (b : List Int) (hb : CodeOk b) (p : Int) (h0 : 0 ≤ p) (h1 : p ≤ 70000) : ∃ r q, Ev (fun k => spec_anyRegion.f k b p) (r, q) ∧ 0 ≤ q ∧ q ≤ p + 110 ∧ r.length ≤ 256 := by
  obtain ⟨r, q, hr, q0, q1, hl⟩ := spec_randomRegion.ev b hb p h0 (by omega)
  have hfalse : ∀ q', Ev (fun k => spec_anyRegion.j0 k r false b q') (r, q') := fun q' =>
    Ev.step (fun k => by simp only [spec_anyRegion.j0]; rfl) (evNeg (by first | exact not_false | simp) (evRet rfl))
  unfold spec_anyRegion.f
  by_cases hz : (r.length : Int) > 0
  · obtain ⟨v, hv, v0, v1⟩ := spec_reader_pick.ev b hb q 20 q0 (by omega) (by omega)
    by_cases e : v = 0
    · obtain ⟨u, hu, u0, u1⟩ := spec_reader_pick.ev b hb (q + 1) (r.length : Int) (by omega) (by omega) (by omega)
      obtain ⟨a, ha, _⟩ := spec_reader_one.ev b hb (q + 1 + 1) (by omega) (by omega) [(-1), 0, 15, 16] (by simp) (by simp)
      obtain ⟨c, hc, _⟩ := spec_reader_one.ev b hb (q + 1 + 1 + 1) (by omega) (by omega) [(-1), 0, 15, 16] (by simp) (by simp)
      obtain ⟨s, hs, _⟩ := spec_reader_one.ev b hb (q + 1 + 1 + 1 + 1) (by omega) (by omega) [0, 1, 16, 17] (by simp) (by simp)
      refine ⟨r.set u.toNat ⟨a, c, s⟩, q + 1 + 1 + 1 + 1 + 1, evBind hr (evPos hz (evBind hv ?_)), by omega, by omega, by simpa using hl⟩
      subst e
      refine Ev.step (fun k => by simp only [spec_anyRegion.j0]; rfl) ?_
      refine evPos (by rfl) (evBind hu (evBind ha (evBind hc (evBind hs ?_))))
      refine evPos u0 ?_
      exact evPos (by omega) (evRet rfl)
    · refine ⟨r, q + 1, evBind hr (evPos hz (evBind hv ?_)), by omega, by omega, hl⟩
      have : (v == 0) = false := by simpa using e
      simp only [this]
      exact hfalse _
  · exact ⟨r, q, evBind hr (evNeg hz (hfalse q)), q0, by omega, hl⟩
theorem spec_DrawPartsOf.ev (l : List Int) (hw : ∀ x ∈ l, (Lit.int .u8 x).wf = true) : ∃ r, Ev (fun k => spec_DrawPartsOf.f k l) r ∧ r.length ≤ 256 := by
  obtain ⟨b, hb, h⟩ := spec_newReader.ev l hw
  obtain ⟨r, q, hr, _, _, hl⟩ := spec_anyRegion.ev b h 0 (by omega) (by omega)
  exact ⟨r, by unfold spec_DrawPartsOf.f; exact evFix hb (evBind hr (evRet rfl)), hl⟩

theorem laws_equalRuns.refl_l0 (a : List S45) (hl : a.length ≤ 9223372036854775806) (d : Nat) : ∀ i, i ≤ a.length → a.length - i = d →
    Ev (fun k => laws_equalRuns.l0 k a a (i : Int)) true := by
  induction d with
  | zero =>
    intro i hi hd
    exact Ev.step (fun k => by simp only [laws_equalRuns.l0]; rfl) (evNeg (by omega) (evRet rfl))
  | succ d ih =>
    intro i hi hd
    have hw : wrap64 ((i : Int) + 1) = ((i + 1 : Nat) : Int) := wrapSucc i (by omega)
    have := ih (i + 1) (by omega) (by omega)
    refine Ev.step (f := fun k => laws_equalRuns.l0 k a a ((i + 1 : Nat) : Int)) (fun k => ?_) this
    simp only [laws_equalRuns.l0, hw]
    rw [if_pos (by omega), if_pos (by omega), if_pos (by omega)]
    simp
theorem laws_equalRuns.refl (a : List S45) (hl : a.length ≤ 9223372036854775806) : Ev (fun k => laws_equalRuns.f k a a) true := by
  unfold laws_equalRuns.f
  exact evPos rfl (laws_equalRuns.refl_l0 a hl a.length 0 (by omega) (by omega))

theorem laws_equalParts.refl_l0 (a : List (List S45)) (hl : a.length ≤ 9223372036854775806) (hr : ∀ x ∈ a, x.length ≤ 9223372036854775806) (d : Nat) : ∀ i, i ≤ a.length → a.length - i = d →
    Ev (fun k => laws_equalParts.l0 k a a (i : Int)) true := by
  induction d with
  | zero =>
    intro i hi hd
    exact Ev.step (fun k => by simp only [laws_equalParts.l0]; rfl) (evNeg (by omega) (evRet rfl))
  | succ d ih =>
    intro i hi hd
    have hnext := ih (i + 1) (by omega) (by omega)
    have hlt : i < a.length := by omega
    have e : a.getD (i : Int).toNat [] = a[i] := by
      rw [Int.toNat_natCast, List.getD_eq_getElem?_getD, List.getElem?_eq_getElem hlt]
      rfl
    have h1 : Ev (fun k => laws_equalRuns.f k (a.getD (i : Int).toNat []) (a.getD (i : Int).toNat [])) true := laws_equalRuns.refl _ (by rw [e]; exact hr _ (List.getElem_mem hlt))
    refine Ev.step (fun k => by simp only [laws_equalParts.l0, wrapSucc i (by omega)]; rfl) ?_
    exact evPos (by omega) (evPos (by omega) (evPos (by omega) (evBind h1 (evPos rfl hnext))))
theorem laws_equalParts.refl (a : List (List S45)) (hl : a.length ≤ 9223372036854775806) (hr : ∀ x ∈ a, x.length ≤ 9223372036854775806) : Ev (fun k => laws_equalParts.f k a a) true := by
  unfold laws_equalParts.f
  exact evPos rfl (laws_equalParts.refl_l0 a hl hr a.length 0 (by omega) (by omega))

theorem hasF_left (f : Nat → Bool) (p : Nat) (hp : p < 256) : hasF f (((p % 16 : Nat) : Int) - 1) ((p / 16 : Nat) : Int) = (decide (0 < p % 16) && f (p - 1)) := by
  by_cases h : 0 < p % 16
  · rw [show ((p % 16 : Nat) : Int) - 1 = ((p % 16 - 1 : Nat) : Int) by omega, hasF_in _ _ _ (by omega) (by omega), decide_eq_true h, Bool.true_and, show 16 * (p / 16) + (p % 16 - 1) = p - 1 by omega]
  · rw [hasF_out _ _ _ (by omega), decide_eq_false h, Bool.false_and]
theorem hasF_right (f : Nat → Bool) (p : Nat) (hp : p < 256) : hasF f (((p % 16 : Nat) : Int) + 1) ((p / 16 : Nat) : Int) = (decide (p % 16 < 15) && f (p + 1)) := by
  by_cases h : p % 16 < 15
  · rw [show ((p % 16 : Nat) : Int) + 1 = ((p % 16 + 1 : Nat) : Int) by omega, hasF_in _ _ _ (by omega) (by omega), decide_eq_true h, Bool.true_and, show 16 * (p / 16) + (p % 16 + 1) = p + 1 by omega]
  · rw [hasF_out _ _ _ (by omega), decide_eq_false h, Bool.false_and]
theorem hasF_up (f : Nat → Bool) (p : Nat) (hp : p < 256) : hasF f ((p % 16 : Nat) : Int) (((p / 16 : Nat) : Int) - 1) = (decide (0 < p / 16) && f (p - 16)) := by
  by_cases h : 0 < p / 16
  · rw [show ((p / 16 : Nat) : Int) - 1 = ((p / 16 - 1 : Nat) : Int) by omega, hasF_in _ _ _ (by omega) (by omega), decide_eq_true h, Bool.true_and, show 16 * (p / 16 - 1) + p % 16 = p - 16 by omega]
  · rw [hasF_out _ _ _ (by omega), decide_eq_false h, Bool.false_and]
theorem hasF_down (f : Nat → Bool) (p : Nat) (hp : p < 256) : hasF f ((p % 16 : Nat) : Int) (((p / 16 : Nat) : Int) + 1) = (decide (p / 16 < 15) && f (p + 16)) := by
  by_cases h : p / 16 < 15
  · rw [show ((p / 16 : Nat) : Int) + 1 = ((p / 16 + 1 : Nat) : Int) by omega, hasF_in _ _ _ (by omega) (by omega), decide_eq_true h, Bool.true_and, show 16 * (p / 16 + 1) + p % 16 = p + 16 by omega]
  · rw [hasF_out _ _ _ (by omega), decide_eq_false h, Bool.false_and]

theorem grownF_pix (f : Nat → Bool) (p : Nat) (hp : p < 256) : grownF f p = (f p || (decide (0 < p % 16) && f (p - 1) || decide (p % 16 < 15) && f (p + 1) || decide (0 < p / 16) && f (p - 16) || decide (p / 16 < 15) && f (p + 16))) := by
  unfold grownF
  rw [hasF_left f p hp, hasF_right f p hp, hasF_up f p hp, hasF_down f p hp]
theorem grownF_congr {f g : Nat → Bool} (h : ∀ i, i < 256 → f i = g i) (p : Nat) (hp : p < 256) : grownF f p = grownF g p := by
  rw [grownF_pix f p hp, grownF_pix g p hp, h p hp]
  congr 1
  congr 1
  · congr 1
    · congr 1
      · by_cases e : 0 < p % 16
        · rw [h (p - 1) (by omega)]
        · rw [decide_eq_false e]; rfl
      · by_cases e : p % 16 < 15
        · rw [h (p + 1) (by omega)]
        · rw [decide_eq_false e]; rfl
    · by_cases e : 0 < p / 16
      · rw [h (p - 16) (by omega)]
      · rw [decide_eq_false e]; rfl
  · by_cases e : p / 16 < 15
    · rw [h (p + 16) (by omega)]
    · rw [decide_eq_false e]; rfl
theorem growN_congr {f g : Nat → Bool} (h : ∀ i, i < 256 → f i = g i) (n : Nat) : ∀ p, p < 256 → growN f n p = growN g n p := by
  induction n with
  | zero => exact h
  | succ n ih => intro p hp; exact grownF_congr ih p hp
theorem grow_val (l : List S45) (h : Valid l) (n : Nat) (hn : n ≤ 16) : impl_GrowRegion.f l (n : Int) = some (runsL (growN (gridF l) n)) := by
  unfold impl_GrowRegion.f
  rw [if_pos ⟨h, by omega, by omega⟩]
  rfl

/-- What is left when whole parts are taken away has the same part at a pixel. -/
theorem partF_rest (f : Nat → Bool) (n s : Nat) (hn : n ≤ 256) (hs : s < 256) (h0 : f s = true) (h1 : seenF f n s = false) (p : Nat) (hp : p < 256) : partF (fun q => f q && !seenF f n q) s p = partF f s p := by
  have hsub : ∀ q, q < 256 → partF (fun q => f q && !seenF f n q) s q = true → partF f s q = true := fun q hq h =>
    partF_least _ (partF f s) s (partF_self f s) (fun a b ha hb h2 h3 h4 => partF_closed f s hs a b ha hb h2 h3 (by rw [Bool.and_eq_true] at h4; exact h4.1)) q hq h
  rw [Bool.eq_iff_iff]
  refine ⟨hsub p hp, fun h => partF_least f _ s (partF_self _ s) (fun a b ha hb h2 h3 h4 => ?_) p hp h⟩
  refine partF_closed _ s hs a b ha hb h2 h3 ?_
  simp only [h4, Bool.true_and, Bool.not_eq_true']
  rw [Bool.eq_false_iff]
  intro hb2
  obtain ⟨r, hr, h5, h6⟩ := (seenF_iff f n b).1 hb2
  have ha2 := hsub a ha h2
  have hfa : f a = true := partF_in f s h0 a ha ha2
  have h7 : partF f r a = true := partF_closed f r (by omega) b a hb ha h6 (nextTo_comm h3) hfa
  have h8 : partF f r s = true := partF_trans f r a s (by omega) hs h7 (partF_symm f s a hs ha h0 ha2)
  rw [(seenF_iff f n s).2 ⟨r, hr, h5, h8⟩] at h1
  cases h1
theorem firstF_iff (f : Nat → Bool) (p : Nat) : firstF f p = true ↔ f p = true ∧ ∀ q, q < p → f q = true → partF f q p = false := by
  unfold firstF
  rw [Bool.and_eq_true, Bool.not_eq_true', Bool.eq_false_iff]
  refine and_congr Iff.rfl ⟨fun h q hq hf => ?_, fun h hs => ?_⟩
  · rw [Bool.eq_false_iff]
    exact fun hp => h ((seenF_iff f p p).2 ⟨q, hq, hf, hp⟩)
  · obtain ⟨q, hq, hf, hp⟩ := (seenF_iff f p p).1 hs
    rw [h q hq hf] at hp
    cases hp
/-- Two first pixels of one part are the same. -/
theorem first_same (f : Nat → Bool) (s t : Nat) (hs : s < 256) (ht : t < 256) (h1 : firstF f s = true) (h2 : firstF f t = true) (h : partF f s t = true) : s = t := by
  have e1 := (firstF_iff f s).1 h1
  have e2 := (firstF_iff f t).1 h2
  rcases Nat.lt_trichotomy s t with hlt | hlt | hlt
  · rw [e2.2 s hlt e1.1] at h; cases h
  · exact hlt
  · have := partF_symm f s t hs ht e1.1 h
    rw [e1.2 t hlt e2.1] at this; cases this
/-- Different parts have no common pixels. -/
theorem parts_apart (f : Nat → Bool) (s t p : Nat) (hs : s < 256) (ht : t < 256) (hp : p < 256) (h1 : firstF f s = true) (h2 : firstF f t = true) (hne : s ≠ t) (h : partF f s p = true) : partF f t p = false := by
  rw [Bool.eq_false_iff]
  intro h3
  have e1 := (firstF_iff f s).1 h1
  have e2 := (firstF_iff f t).1 h2
  exact hne (first_same f s t hs ht h1 h2 (partF_trans f s p t hs ht h (partF_symm f t p ht hp e2.1 h3)))
theorem grown_apart (f : Nat → Bool) (s t p : Nat) (hs : s < 256) (ht : t < 256) (hp : p < 256) (h1 : firstF f s = true) (h2 : firstF f t = true) (hne : s ≠ t) (h : grownF (partF f s) p = true) : partF f t p = false := by
  rw [Bool.eq_false_iff]
  intro h3
  have e2 := (firstF_iff f t).1 h2
  have hfp := partF_in f t e2.1 p hp h3
  have hs2 : partF f s p = true → False := fun h4 => by
    rw [parts_apart f s t p hs ht hp h1 h2 hne h4] at h3
    cases h3
  have key : ∀ q, q < 256 → nextTo q p → partF f s q = true → False := fun q hq h4 h5 => hs2 (partF_closed f s hs q p hq hp h5 h4 hfp)
  unfold grownF at h
  rw [hasF_left _ p hp, hasF_right _ p hp, hasF_up _ p hp, hasF_down _ p hp] at h
  simp only [Bool.or_eq_true, Bool.and_eq_true, decide_eq_true_eq] at h
  rcases h with h | ((⟨a, b⟩ | ⟨a, b⟩) | ⟨a, b⟩) | ⟨a, b⟩
  · exact hs2 h
  · exact key (p - 1) (by omega) (by unfold nextTo; omega) b
  · exact key (p + 1) (by omega) (by unfold nextTo; omega) b
  · exact key (p - 16) (by omega) (by unfold nextTo; omega) b
  · exact key (p + 16) (by omega) (by unfold nextTo; omega) b

def seedsL (f : Nat → Bool) : List Nat := (List.range 256).filter (firstF f)
theorem seeds_mem (f : Nat → Bool) (k : Nat) (h : k < (seedsL f).length) : (seedsL f)[k] < 256 ∧ firstF f (seedsL f)[k] = true := by
  have := List.getElem_mem h
  unfold seedsL at this
  rw [List.mem_filter, List.mem_range] at this
  exact this
theorem seeds_apart (f : Nat → Bool) (i k : Nat) (hi : i < (seedsL f).length) (hk : k < (seedsL f).length) (h : i ≠ k) : (seedsL f)[i] ≠ (seedsL f)[k] := by
  have hnd : (seedsL f).Pairwise (· ≠ ·) := (List.nodup_range (n := 256)).filter _
  rcases Nat.lt_or_gt_of_ne h with h1 | h1
  · exact List.pairwise_iff_getElem.1 hnd i k hi hk h1
  · exact (List.pairwise_iff_getElem.1 hnd k i hk hi h1).symm
theorem seeds_le (f : Nat → Bool) : (seedsL f).length ≤ 256 := partsUpto_length f 256 |> fun h => by unfold partsUpto at h; rw [List.length_map] at h; exact h
theorem parts_seeds (f : Nat → Bool) : (partsUpto f 256).length = (seedsL f).length := by unfold partsUpto seedsL; rw [List.length_map]
theorem part_at (f : Nat → Bool) (k : Nat) (h : k < (seedsL f).length) : (partsUpto f 256).getD (k : Int).toNat [] = runsL (partF f (seedsL f)[k]) := by
  rw [show partsUpto f 256 = (seedsL f).map (fun p => runsL (partF f p)) from rfl, Int.toNat_natCast, List.getD_eq_getElem?_getD, List.getElem?_map, List.getElem?_eq_getElem h, Option.map_some, Option.getD_some]

theorem rdRunM (l : List S45) (k : Nat) (h : k < l.length) : rd_T45 l (k : Int) = l[k] := by
  simp [rd_T45, List.getD_eq_getElem?_getD, List.getElem?_eq_getElem h]
theorem idxWrap (Y x : Nat) (hY : Y < 16) (hx : x ≤ 16) : wrap64 ((wrap64 ((Y : Int) * 16)) + x) = ((16 * Y + x : Nat) : Int) := by
  rw [wrapIn (x := (Y : Int) * 16) (by omega) (by omega), wrapIn (by omega) (by omega)]
  omega
theorem spec_gridOf.ev_l1 (l : List S45) (i : Nat) (hi : i < l.length) (r : S45) (hr : rd_T45 l (i : Int) = r) (R : List Bool) (g : Nat → Bool)
    (hR : Ev (fun k => spec_gridOf.l0 k l (gl fun j => g j || inRun r j) (wrap64 ((i : Int) + 1))) R) (Y F T : Nat) (hY : r.f0 = Y) (hF : r.f1 = F) (hT : r.f2 = T) (hY16 : Y < 16) (hT16 : T ≤ 16) (d : Nat) : ∀ x, F ≤ x → x ≤ T → T - x = d →
    Ev (fun k => spec_gridOf.l1 k l (gl fun j => g j || (decide (j / 16 = Y) && decide (F ≤ j % 16) && decide (j % 16 < x))) (i : Int) (x : Int)) R := by
  induction d with
  | zero =>
    intro x hx1 hx2 hd
    obtain rfl : x = T := by omega
    refine Ev.step (fun k => by simp only [spec_gridOf.l1, hr, hT]; rfl) (evPos (by omega) (evPos (by omega) (evNeg (by omega) ?_)))
    have e : gl (fun j => g j || (decide (j / 16 = Y) && decide (F ≤ j % 16) && decide (j % 16 < x))) = gl (fun j => g j || inRun r j) := gl_congr fun j hj => by
      congr 1
      rw [Bool.eq_iff_iff]
      unfold inRun
      simp only [Bool.and_eq_true, decide_eq_true_eq]
      rw [hY, hF, hT]
      omega
    rw [e]
    exact hR
  | succ d ih =>
    intro x hx1 hx2 hd
    have h2 := ih (x + 1) (by omega) (by omega) (by omega)
    refine Ev.step (fun k => by simp only [spec_gridOf.l1, hr, hY, hT, wrapSucc x (by omega), idxWrap Y x hY16 (by omega)]; rfl) (evPos (by omega) (evPos (by omega) (evPos (by omega) (evPos (by omega) (evPos (by rw [gl_length]; omega) ?_)))))
    rw [Int.toNat_natCast, gl_set]
    have e : gl (fun j => if j = 16 * Y + x then true else g j || (decide (j / 16 = Y) && decide (F ≤ j % 16) && decide (j % 16 < x))) = gl (fun j => g j || (decide (j / 16 = Y) && decide (F ≤ j % 16) && decide (j % 16 < x + 1))) := gl_congr fun j hj => by
      by_cases e : j = 16 * Y + x
      · rw [if_pos e, decide_eq_true (show j / 16 = Y by omega), decide_eq_true (show F ≤ j % 16 by omega), decide_eq_true (show j % 16 < x + 1 by omega)]
        simp
      · rw [if_neg e]
        congr 1
        rw [Bool.eq_iff_iff]
        simp only [Bool.and_eq_true, decide_eq_true_eq]
        omega
    rw [e]
    exact h2
theorem spec_gridOf.ev_l0 (l : List S45) (hok : RunsOk l) (hl : l.length ≤ 9223372036854775806) (d : Nat) : ∀ i, i ≤ l.length → l.length - i = d →
    Ev (fun k => spec_gridOf.l0 k l (gl (gridF (l.take i))) (i : Int)) (gl (gridF l)) := by
  induction d with
  | zero =>
    intro i hi hd
    refine Ev.step (fun k => by simp only [spec_gridOf.l0]; rfl) (evNeg (by omega) (evRet ?_))
    rw [List.take_of_length_le (by omega)]
  | succ d ih =>
    intro i hi hd
    have hlt : i < l.length := by omega
    obtain ⟨h0, h1, h2, h3, h4⟩ := hok l[i] (List.getElem_mem hlt)
    have hr : rd_T45 l (i : Int) = l[i] := rdRunM l i hlt
    have hF : l[i].f1 = ((l[i].f1.toNat : Nat) : Int) := by omega
    have hnext := ih (i + 1) (by omega) (by omega)
    have e0 : gl (gridF (l.take (i + 1))) = gl (fun j => gridF (l.take i) j || inRun l[i] j) := gl_congr fun j _ => by rw [take_snocN l i hlt, gridF_snoc]
    rw [e0, ← wrapSucc i (by omega)] at hnext
    generalize l[i] = r at *
    have h := spec_gridOf.ev_l1 l i hlt r hr (gl (gridF l)) (gridF (l.take i)) hnext r.f0.toNat r.f1.toNat r.f2.toNat (by omega) hF (by omega) (by omega) (by omega) _ r.f1.toNat (Nat.le_refl _) (by omega) rfl
    rw [← hF] at h
    refine Ev.step (fun k => by simp only [spec_gridOf.l0, hr]; rfl) (evPos (by omega) (evPos (by omega) ?_))
    have e : gl (fun j => gridF (l.take i) j || (decide (j / 16 = r.f0.toNat) && decide (r.f1.toNat ≤ j % 16) && decide (j % 16 < r.f1.toNat))) = gl (gridF (l.take i)) := gl_congr fun j hj => by
      by_cases e1 : r.f1.toNat ≤ j % 16
      · rw [decide_eq_false (show ¬ j % 16 < r.f1.toNat by omega)]
        simp
      · rw [decide_eq_false e1]
        simp
    rw [e] at h
    exact h
theorem spec_gridOf.ev (l : List S45) (hok : RunsOk l) (hl : l.length ≤ 9223372036854775806) : Ev (fun k => spec_gridOf.f k l) (gl (gridF l)) := by
  have h := spec_gridOf.ev_l0 l hok hl l.length 0 (by omega) (by omega)
  unfold spec_gridOf.f
  refine evPos (by omega) ?_
  rw [gl_false]
  rw [gl_congr (g := fun _ => false) (fun i hi => by rw [List.take_zero, gridF_nil])] at h
  exact h

theorem spec_validRuns.ev_l0 (l : List S45) (hl : l.length ≤ 9223372036854775807) (d : Nat) : ∀ i, i ≤ l.length → l.length - i = d →
    Ev (fun k => spec_validRuns.l0 k l (i : Int)) (decide (∀ j, j < l.length → i ≤ j → okAt l j)) := by
  induction d with
  | zero =>
    intro i hi hd
    refine Ev.step (fun k => by simp only [spec_validRuns.l0]; rfl) (evNeg (by omega) (evRet ?_))
    rw [eq_comm, decide_eq_true_eq]
    intro j h1 h2
    omega
  | succ d ih =>
    intro i hi hd
    have hlt : i < l.length := by omega
    have hnot : ¬ okAt l i → decide (∀ j, j < l.length → i ≤ j → okAt l j) = false := fun h => by
      rw [decide_eq_false_iff_not]
      exact fun hh => h (hh i hlt (Nat.le_refl _))
    have hyes : okAt l i → decide (∀ j, j < l.length → i ≤ j → okAt l j) = decide (∀ j, j < l.length → i + 1 ≤ j → okAt l j) := fun h => by
      refine decide_eq_decide.mpr ⟨fun hh j h1 h2 => hh j h1 (by omega), fun hh j h1 h2 => ?_⟩
      rcases Nat.eq_or_lt_of_le h2 with h3 | h3
      · subst h3
        exact h
      · exact hh j h1 h3
    have hbad : ∀ a b c, ¬ okAt l i → Ev (fun k => spec_validRuns.j1 k l (i : Int) true a b c) (decide (∀ j, j < l.length → i ≤ j → okAt l j)) := fun a b c h =>
      Ev.step (fun k => by simp only [spec_validRuns.j1]; rfl) (evPos (by trivial) (evRet (hnot h).symm))
    have hw : wrap64 ((i : Int) + 1) = ((i + 1 : Nat) : Int) := wrapSucc i (by omega)
    refine Ev.step (fun k => by simp only [spec_validRuns.l0]; rfl) ?_
    refine evPos (by omega) (evPos (by omega) (evFix (inRange_val _ _ _) (evIf (fun h1 => evFix (inRange_val _ _ _) (evIf (fun h2 => evFix (inRange_val _ _ _) ?_) (fun h2 => hbad _ _ _ fun h => ?_))) (fun h1 => hbad _ _ _ fun h => ?_))))
    · rw [decide_eq_true_eq] at h1 h2
      rw [wrapIn (x := (rd_T45 l (i : Int)).f1 + 1) (by omega) (by omega)]
      by_cases h3 : (rd_T45 l (i : Int)).f1 + 1 ≤ (rd_T45 l (i : Int)).f2 ∧ (rd_T45 l (i : Int)).f2 ≤ 16
      · rw [decide_eq_true h3]
        have hr : okRun (rd_T45 l (i : Int)) := by unfold okRun; omega
        refine Ev.step (fun k => by simp only [spec_validRuns.j1, hw]; rfl) ?_
        refine evNeg (by first | exact not_false | simp) (evIf (fun h6 => ?_) (fun h6 => ?_))
        · have hw2 : wrap64 ((i : Int) - 1) = ((i - 1 : Nat) : Int) := by unfold wrap64; omega
          rw [hw2]
          refine evPos (by omega) (evPos (by omega) (evIf (fun h7 => evRet (hnot fun h => ?_).symm) (fun h7 => evIf (fun h8 => evIf (fun h9 => evRet (hnot fun h => ?_).symm) (fun h9 => ?_)) (fun h8 => ?_))))
          · have := h.2
            unfold before at this
            omega
          · have := h.2
            unfold before at this
            omega
          · rw [hyes ⟨hr, .inr (by unfold before; omega)⟩]
            exact ih (i + 1) (by omega) (by omega)
          · rw [hyes ⟨hr, .inr (by unfold before; omega)⟩]
            exact ih (i + 1) (by omega) (by omega)
        · rw [hyes ⟨hr, .inl (by omega)⟩]
          exact ih (i + 1) (by omega) (by omega)
      · rw [decide_eq_false h3]
        refine hbad _ _ _ fun h => h3 ?_
        have := h.1
        unfold okRun at this
        omega
    · rw [decide_eq_true_eq] at h2
      have := h.1
      unfold okRun at this
      omega
    · rw [decide_eq_true_eq] at h1
      have := h.1
      unfold okRun at this
      omega
theorem spec_validRuns.ev (l : List S45) (hl : l.length ≤ 9223372036854775807) : Ev (fun k => spec_validRuns.f k l) (decide (Valid l)) := by
  have h := spec_validRuns.ev_l0 l hl l.length 0 (by omega) (by omega)
  unfold spec_validRuns.f
  have e : decide (∀ j, j < l.length → 0 ≤ j → okAt l j) = decide (Valid l) := decide_eq_decide.mpr (by rw [valid_iff]; exact ⟨fun h j hj => h j hj (Nat.zero_le _), fun h j hj _ => h j hj⟩)
  rw [e] at h
  exact h

/-- A stack of places, as pixels. -/
def pxOf (p : Nat) : Int × Int := (((p % 16 : Nat) : Int), ((p / 16 : Nat) : Int))
def pxs (st : List Nat) : List (Int × Int) := st.map pxOf
def ints (st : List Nat) : List Int := st.map fun p : Nat => (p : Int)
theorem ptN_px (p : Nat) : ptN (pxOf p) = p := by
  unfold ptN pxOf
  simp only [Int.toNat_natCast]
  omega
theorem spread_same {f : Nat → Bool} {s : Nat} {out : Nat → Bool} {qs qs' : List (Int × Int)} (h : SpreadSt f s out qs) (hm : ∀ q, q ∈ qs ↔ q ∈ qs') : SpreadSt f s out qs' :=
  ⟨h.seed, h.sub, fun q hq => h.pts q ((hm q).2 hq), fun p hp h1 => by
    rcases h.shut p hp h1 with ⟨q, hq, e⟩ | h2
    · exact .inl ⟨q, (hm q).1 hq, e⟩
    · exact .inr h2⟩
/-- The neighbours of a pixel, in the order of the reference. -/
def nbQ (x y : Nat) (j : Nat) : Int × Int := if j = 0 then ((x : Int) + 1, (y : Int)) else if j = 1 then ((x : Int) + -1, (y : Int)) else if j = 2 then ((x : Int), (y : Int) + 1) else ((x : Int), (y : Int) + -1)
theorem nbQ_all (x y : Nat) (hx : x < 16) (hy : y < 16) (nb : List Nat) (h : ∀ j, j < 4 → 0 ≤ (nbQ x y j).1 → (nbQ x y j).1 < 16 → 0 ≤ (nbQ x y j).2 → (nbQ x y j).2 < 16 → 16 * (nbQ x y j).2.toNat + (nbQ x y j).1.toNat ∈ nb) (r : Nat) (hr : r < 256) (hn : nextTo (16 * y + x) r) : r ∈ nb := by
  have key : ∀ j, j < 4 → ∀ u v : Nat, nbQ x y j = ((u : Int), (v : Int)) → u < 16 → v < 16 → r = 16 * v + u → r ∈ nb := fun j hj u v e1 hu hv e2 => by
    have h1 := h j hj
    rw [e1] at h1
    have h2 := h1 (by simp) (by simp; omega) (by simp) (by simp; omega)
    simp only [Int.toNat_natCast] at h2
    rw [e2]
    exact h2
  unfold nextTo at hn
  by_cases h1 : r / 16 = y
  · by_cases h2 : r % 16 = x + 1
    · exact key 0 (by omega) (x + 1) y (by unfold nbQ; simp) (by omega) hy (by omega)
    · exact key 1 (by omega) (x - 1) y (by unfold nbQ; simp; omega) (by omega) hy (by omega)
  · by_cases h2 : r / 16 = y + 1
    · exact key 2 (by omega) x (y + 1) (by unfold nbQ; simp) hx (by omega) (by omega)
    · exact key 3 (by omega) x (y - 1) (by unfold nbQ; simp; omega) hx (by omega) (by omega)
theorem nbQ_next (x y : Nat) (j u v : Nat) (hx : x < 16) (hy : y < 16) (h : nbQ x y j = ((u : Int), (v : Int))) (hu : u < 16) (hv : v < 16) : nextTo (16 * y + x) (16 * v + u) := by
  unfold nbQ at h
  unfold nextTo
  split at h
  · simp only [Prod.mk.injEq] at h; omega
  · split at h
    · simp only [Prod.mk.injEq] at h; omega
    · split at h
      · simp only [Prod.mk.injEq] at h; omega
      · simp only [Prod.mk.injEq] at h; omega
theorem nbQ_wrap (x y j : Nat) (hx : x < 16) (hy : y < 16) (hj : j < 4) : wrap64 ((x : Int) + rd [1, -1, 0, 0] (j : Int)) = (nbQ x y j).1 ∧ wrap64 ((y : Int) + rd [0, 0, 1, -1] (j : Int)) = (nbQ x y j).2 := by
  match j, hj with
  | 0, _ => exact ⟨wrapIn (x := (x : Int) + 1) (by omega) (by omega), by show wrap64 ((y : Int) + 0) = (y : Int); rw [wrapIn (by omega) (by omega)]; omega⟩
  | 1, _ => exact ⟨wrapIn (x := (x : Int) + -1) (by omega) (by omega), by show wrap64 ((y : Int) + 0) = (y : Int); rw [wrapIn (by omega) (by omega)]; omega⟩
  | 2, _ => exact ⟨by show wrap64 ((x : Int) + 0) = (x : Int); rw [wrapIn (by omega) (by omega)]; omega, wrapIn (x := (y : Int) + 1) (by omega) (by omega)⟩
  | 3, _ => exact ⟨by show wrap64 ((x : Int) + 0) = (x : Int); rw [wrapIn (by omega) (by omega)]; omega, wrapIn (x := (y : Int) + -1) (by omega) (by omega)⟩
theorem ints_length (st : List Nat) : (ints st).length = st.length := List.length_map _
theorem spec_spreadFrom.ev_l1 (f : Nat → Bool) (s x y : Nat) (hs : s < 256) (hx : x < 16) (hy : y < 16) (M : Nat) (hM : M ≤ 512) (R : List Bool)
    (hR : ∀ out st, SpreadSt f s out (pxs st) → (∀ p ∈ st, p < 256) → st.length + (256 - cntB out 256) = M → Ev (fun k => spec_spreadFrom.l0 k (gl f) (gl out) (ints st) 16) R) (d : Nat) :
    ∀ (j : Nat) (out : Nat → Bool) (st nb : List Nat), j ≤ 4 → 4 - j = d → LookSt f s out (pxs st) (16 * y + x) nb → (∀ i, i < j → 0 ≤ (nbQ x y i).1 → (nbQ x y i).1 < 16 → 0 ≤ (nbQ x y i).2 → (nbQ x y i).2 < 16 → 16 * (nbQ x y i).2.toNat + (nbQ x y i).1.toNat ∈ nb) → (∀ p ∈ st, p < 256) → st.length + (256 - cntB out 256) = M →
    Ev (fun k => spec_spreadFrom.l1 k (gl f) (gl out) (ints st) 16 (x : Int) (y : Int) (j : Int)) R := by
  induction d with
  | zero =>
    intro j out st nb hj hd hL hn hst hm
    obtain rfl : j = 4 := by omega
    exact Ev.step (fun k => by simp only [spec_spreadFrom.l1]; rfl) (evNeg (by omega) (hR out st (hL.end_ (nbQ_all x y hx hy nb hn)) hst hm))
  | succ d ih =>
    intro j out st nb hj hd hL hn hst hm
    have hj5 : j < 9223372036854775807 := by omega
    have hj6 : j < 4 := by omega
    have hj4 : (j : Int) < 4 := by omega
    have hj0 : (0 : Int) ≤ (j : Int) := by omega
    obtain ⟨u, v, huv⟩ : ∃ u v, nbQ x y j = (u, v) := ⟨_, _, rfl⟩
    have hskip : ∀ nb', (∀ q ∈ nb, q ∈ nb') → (0 ≤ u → u < 16 → 0 ≤ v → v < 16 → 16 * v.toNat + u.toNat ∈ nb') → LookSt f s out (pxs st) (16 * y + x) nb' → Ev (fun k => spec_spreadFrom.l1 k (gl f) (gl out) (ints st) 16 (x : Int) (y : Int) ((j + 1 : Nat) : Int)) R := fun nb' h1 h2 h3 =>
      ih (j + 1) out st nb' (by omega) (by omega) h3 (fun i hi a1 a2 a3 a4 => by
        by_cases ei : i = j
        · subst ei
          rw [huv] at a1 a2 a3 a4 ⊢
          exact h2 a1 a2 a3 a4
        · exact h1 _ (hn i (by omega) a1 a2 a3 a4)) hst hm
    obtain ⟨w1, w2⟩ := nbQ_wrap x y j hx hy hj6
    rw [huv] at w1 w2
    simp only [] at w1 w2
    have w3 : wrap64 ((16 : Int) - 1) = 15 := wrapIn (by decide) (by decide)
    have w4 := wrapSucc j hj5
    refine Ev.step (fun k => by simp only [spec_spreadFrom.l1]; rfl) (evPos hj4 (evFix rfl (evPos hj0 (evPos hj4 (evFix rfl (evPos hj4 ?_))))))
    simp only [w1, w2, w3, w4]
    clear w1 w2 w3 w4
    refine evFix (inRange_val u 0 15) ?_
    by_cases hu : 0 ≤ u ∧ u ≤ 15
    · refine evPos (decide_eq_true hu) (evFix (inRange_val v 0 15) ?_)
      by_cases hv : 0 ≤ v ∧ v ≤ 15
      · refine evPos (decide_eq_true hv) ?_
        obtain ⟨U, rfl⟩ := Int.eq_ofNat_of_zero_le hu.1
        obtain ⟨V, rfl⟩ := Int.eq_ofNat_of_zero_le hv.1
        have hU : U < 16 := by omega
        have hV : V < 16 := by omega
        have hp : wrap64 (wrap64 ((V : Int) * 16) + (U : Int)) = ((16 * V + U : Nat) : Int) := by
          rw [wrapIn (x := (V : Int) * 16) (by omega) (by omega), wrapIn (by omega) (by omega)]
          omega
        simp only [hp]
        clear hp
        have hnext := nbQ_next x y j U V hx hy huv hU hV
        refine evPos (by omega) (evPos (by rw [gl_length]; omega) ?_)
        rw [gl_rd f (16 * V + U) (by omega)]
        by_cases hf : f (16 * V + U) = true
        · refine evPos hf (evPos (by rw [gl_length]; omega) ?_)
          rw [gl_rd out (16 * V + U) (by omega)]
          by_cases ho : out (16 * V + U) = true
          · refine evPos ho ?_
            exact hskip ((16 * V + U) :: nb) (fun q hq => List.mem_cons_of_mem _ hq) (fun _ _ _ _ => List.mem_cons_self) (hL.skip _ (fun _ => ho))
          · have ho2 : out (16 * V + U) = false := by simpa using ho
            refine evNeg ho (evPos (by rw [ints_length]; omega) ?_)
            have hc1 := cntB_one (f := out) (16 * V + U) ho2 256
            rw [if_pos (by omega)] at hc1
            have hc2 := cntB_le (fun q => if q = 16 * V + U then true else out q) 256
            have e1 : ints st ++ [((16 * V + U : Nat) : Int)] = ints (st ++ [16 * V + U]) := by unfold ints; rw [List.map_append]; rfl
            have e2 : pxs (st ++ [16 * V + U]) = pxs st ++ [((U : Int), (V : Int))] := by
              unfold pxs pxOf
              rw [List.map_append]
              simp only [List.map_cons, List.map_nil]
              rw [show (16 * V + U) % 16 = U by omega, show (16 * V + U) / 16 = V by omega]
            rw [Int.toNat_natCast, gl_set, e1]
            refine ih (j + 1) _ _ ((16 * V + U) :: nb) (by omega) (by omega) (by rw [e2]; exact LookSt.add hs (by omega) hL U V hU hV hnext hf) (fun i hi a1 a2 a3 a4 => ?_) (fun p hp => ?_) (by rw [List.length_append, List.length_singleton]; omega)
            · by_cases ei : i = j
              · subst ei
                rw [huv]
                exact List.mem_cons_self
              · exact List.mem_cons_of_mem _ (hn i (by omega) a1 a2 a3 a4)
            · rcases List.mem_append.1 hp with h | h
              · exact hst p h
              · rw [List.mem_singleton] at h
                omega
        · refine evNeg hf ?_
          exact hskip ((16 * V + U) :: nb) (fun q hq => List.mem_cons_of_mem _ hq) (fun _ _ _ _ => List.mem_cons_self) (hL.skip _ (fun h => absurd h hf))
      · refine evNeg (by rw [decide_eq_false hv]; simp) ?_
        exact hskip nb (fun q hq => hq) (fun _ _ a3 a4 => absurd ⟨a3, by omega⟩ hv) hL
    · refine evNeg (by rw [decide_eq_false hu]; simp) ?_
      exact hskip nb (fun q hq => hq) (fun a1 a2 _ _ => absurd ⟨a1, by omega⟩ hu) hL
theorem spec_spreadFrom.ev_l0 (f : Nat → Bool) (s : Nat) (hs : s < 256) (M : Nat) : M ≤ 512 → ∀ (out : Nat → Bool) (st : List Nat), SpreadSt f s out (pxs st) → (∀ p ∈ st, p < 256) → st.length + (256 - cntB out 256) = M →
    Ev (fun k => spec_spreadFrom.l0 k (gl f) (gl out) (ints st) 16) (gl (partF f s)) := by
  induction M using Nat.strongRecOn with
  | _ M ih =>
    intro hM out st hS hst hm
    rcases List.eq_nil_or_concat st with rfl | ⟨st', p, rfl⟩
    · refine Ev.step (fun k => by simp only [spec_spreadFrom.l0]; rfl) (evNeg (by rw [ints_length]; simp) (evRet ?_))
      exact gl_congr (fun q hq => hS.done q hq)
    · rw [List.concat_eq_append] at *
      have hp : p < 256 := hst p (by simp)
      have hlen : (ints (st' ++ [p])).length = st'.length + 1 := by rw [ints_length, List.length_append, List.length_singleton]
      have hL : LookSt f s out (pxs st') (16 * (p / 16) + p % 16) [] := by
        have h1 : SpreadSt f s out (pxOf p :: pxs st') := spread_same hS (fun q => by
          unfold pxs
          rw [List.map_append, List.mem_append, List.mem_cons]
          simp only [List.map_cons, List.map_nil, List.mem_singleton]
          exact or_comm)
        have h2 := h1.look
        rw [ptN_px] at h2
        rw [show 16 * (p / 16) + p % 16 = p by omega]
        exact h2
      rw [List.length_append, List.length_singleton] at hm
      have h := spec_spreadFrom.ev_l1 f s (p % 16) (p / 16) hs (by omega) (by omega) (M - 1) (by omega) (gl (partF f s)) (fun out2 st2 a b c => ih (M - 1) (by omega) (by omega) out2 st2 a b c) 4 0 out st' [] (by omega) (by omega) hL (fun i hi => absurd hi (by omega)) (fun q hq => hst q (by simp [hq])) (by omega)
      have w1 : wrap64 (((ints (st' ++ [p])).length : Int) - 1) = (st'.length : Int) := by
        rw [hlen]
        rw [wrapIn (by omega) (by omega)]
        omega
      have e1 : rd (ints (st' ++ [p])) (st'.length : Int) = (p : Int) := by
        rw [rdN _ _ (by omega)]
        unfold ints
        simp
      have e2 : (ints (st' ++ [p])).take st'.length = ints st' := by
        unfold ints
        rw [List.map_append, List.take_append_of_le_length (by simp), List.take_of_length_le (by simp)]
      have e3 : Int.tmod (p : Int) 16 = ((p % 16 : Nat) : Int) := by
        rw [Int.tmod_eq_emod_of_nonneg (by omega)]; omega
      have e4 : wrap64 (Int.tdiv (p : Int) 16) = ((p / 16 : Nat) : Int) := by
        rw [Int.tdiv_eq_ediv_of_nonneg (by omega), wrapIn (by omega) (by omega)]; omega
      refine Ev.step (fun k => by simp only [spec_spreadFrom.l0, w1, Int.toNat_natCast, e1, e2, e3, e4]; rfl) ?_
      clear w1 e1 e2 e3 e4
      refine evPos (by omega) (evPos (by omega) (evPos (by omega) (evPos (by omega) (evNeg (by omega) ?_))))
      exact h
theorem spec_spreadFrom.ev (f : Nat → Bool) (s : Nat) (hs : s < 256) : Ev (fun k => spec_spreadFrom.f k (gl f) (s : Int)) (gl (partF f s)) := by
  have hS := SpreadSt.start f (s % 16) (s / 16) (by omega) (by omega)
  have e : 16 * (s / 16) + s % 16 = s := by omega
  rw [e] at hS
  have hc := cntB_le (fun j => if j = s then true else false) 256
  have h := spec_spreadFrom.ev_l0 f s hs (1 + (256 - cntB (fun j => if j = s then true else false) 256)) (by omega) (fun j => if j = s then true else false) [s] hS (fun p hp => by rw [List.mem_singleton] at hp; omega) (by simp)
  unfold spec_spreadFrom.f
  rw [gl_length]
  refine evPos (by omega) (evPos (by omega) (evFix rfl (evPos (by omega) (evPos (by rw [List.length_replicate]; omega) ?_))))
  rw [show ((256 : Nat) : Int).toNat = 256 from rfl, gl_false, Int.toNat_natCast, gl_set]
  exact h
theorem spec_parts.ev_l1 (g part : Nat → Bool) (a : Nat) (ha : a < 256) (X R : List (List S45)) (hR : Ev (fun k => spec_parts.l0 k X (gl fun q => g q && !part q) ((a + 1 : Nat) : Int)) R) (d : Nat) : ∀ i, i ≤ 256 → 256 - i = d →
    Ev (fun k => spec_parts.l1 k X (gl fun q => if q < i then g q && !part q else g q) (a : Int) (gl part) (i : Int)) R := by
  induction d with
  | zero =>
    intro i hi hd
    obtain rfl : i = 256 := by omega
    refine Ev.step (fun k => by simp only [spec_parts.l1, wrapSucc a (by omega)]; rfl) (evNeg (by rw [gl_length]; omega) ?_)
    rw [gl_congr (g := fun q => g q && !part q) (fun q hq => if_pos hq)]
    exact hR
  | succ d ih =>
    intro i hi hd
    have hnext := ih (i + 1) (by omega) (by omega)
    have hset : ∀ v, v = (g i && !part i) → (gl fun q => if q < i then g q && !part q else g q).set (i : Int).toNat v = gl fun q => if q < i + 1 then g q && !part q else g q := fun v hv => by
      rw [Int.toNat_natCast, gl_set]
      refine gl_congr fun q hq => ?_
      by_cases e : q = i
      · subst e
        rw [if_pos rfl, if_pos (by omega), hv]
      · rw [if_neg e]
        by_cases h : q < i
        · rw [if_pos h, if_pos (by omega)]
        · rw [if_neg h, if_neg (by omega)]
    have hg : rdOf false (gl fun q => if q < i then g q && !part q else g q) (i : Int) = g i := by
      rw [gl_rd _ i (by omega), if_neg (by omega)]
    have hp : rdOf false (gl part) (i : Int) = part i := gl_rd _ i (by omega)
    refine Ev.step (fun k => by simp only [spec_parts.l1, wrapSucc i (by omega), hg, hp]; rfl) ?_
    refine evPos (by rw [gl_length]; omega) (evPos (by omega) (evIf (fun h => ?_) (fun h => ?_)))
    · refine evPos (by rw [gl_length]; omega) ?_
      rw [hset _ (by rw [h]; rfl)]
      exact hnext
    · rw [hset _ (by rw [Bool.eq_false_iff.2 h]; rfl)]
      exact hnext
theorem spec_parts.ev_l0 (f : Nat → Bool) (d : Nat) : ∀ n, n ≤ 256 → 256 - n = d →
    Ev (fun k => spec_parts.l0 k (partsUpto f n) (gl fun q => f q && !seenF f n q) (n : Int)) (partsUpto f 256) := by
  induction d with
  | zero =>
    intro n hn hd
    obtain rfl : n = 256 := by omega
    exact Ev.step (fun k => by simp only [spec_parts.l0]; rfl) (evNeg (by rw [gl_length]; omega) (evRet rfl))
  | succ d ih =>
    intro n hn hd
    have hnext := ih (n + 1) (by omega) (by omega)
    have hg : rdOf false (gl fun q => f q && !seenF f n q) (n : Int) = firstF f n := by
      rw [gl_rd _ n (by omega)]
      rfl
    have hlen := partsUpto_length f n
    refine Ev.step (fun k => by simp only [spec_parts.l0, hg]; rfl) ?_
    refine evPos (by rw [gl_length]; omega) (evPos (by omega) (evIf (fun h => ?_) (fun h => ?_)))
    · have h1 := (firstF_iff f n).1 h
      have h2 : seenF f n n = false := by
        unfold firstF at h
        rw [h1.1] at h
        simpa using h
      refine evBind (spec_spreadFrom.ev _ n (by omega)) (evBind (spec_runsOf.ev _) (evPos (by omega) ?_))
      rw [runsL_congr (fun i hi => partF_rest f n n (by omega) (by omega) h1.1 h2 i hi), ← partsUpto_first f n h]
      have h3 := spec_parts.ev_l1 (fun q => f q && !seenF f n q) (partF (fun q => f q && !seenF f n q) n) n (by omega) (partsUpto f (n + 1)) (partsUpto f 256) (by
        rw [gl_congr (g := fun q => f q && !seenF f (n + 1) q) (fun q hq => ?_)]
        · exact hnext
        · rw [partF_rest f n n (by omega) (by omega) h1.1 h2 q hq, seenF_succ, h1.1]
          cases f q <;> cases seenF f n q <;> cases partF f n q <;> rfl) 256 0 (by omega) (by omega)
      rw [gl_congr (g := fun q => f q && !seenF f n q) (fun q hq => if_neg (by omega))] at h3
      exact h3
    · have h0 : firstF f n = false := Bool.eq_false_iff.2 h
      rw [partsUpto_not f n h0, gl_congr (g := fun q => f q && !seenF f n q) (fun q hq => by rw [seenF_seen f n q (by omega) hq h0])] at hnext
      rw [wrapSucc n (by omega)]
      exact hnext
theorem spec_PartsOf.ev (l : List S45) (hl : l.length ≤ 9223372036854775806) : Ev (fun k => spec_PartsOf.f k l) (if Valid l then partsUpto (gridF l) 256 else []) := by
  unfold spec_PartsOf.f
  refine evBind (spec_validRuns.ev l (by omega)) (evIf (fun h => ?_) (fun h => evRet ?_))
  · rw [decide_eq_true_eq] at h
    rw [if_pos h]
    have h1 : Ev (fun k => spec_parts.f k l) (partsUpto (gridF l) 256) := by
      unfold spec_parts.f
      refine evBind (spec_gridOf.ev l h.1 hl) ?_
      have h2 := spec_parts.ev_l0 (gridF l) 256 0 (by omega) (by omega)
      rw [gl_congr (g := gridF l) (fun q hq => by rw [seenF_zero]; simp)] at h2
      exact h2
    exact evBind h1 (evRet rfl)
  · rw [decide_eq_true_eq] at h
    rw [if_neg h]
theorem parts_len (l : List S45) : (if Valid l then partsUpto (gridF l) 256 else []).length ≤ 256 := by
  split
  · exact partsUpto_length _ 256
  · simp
theorem parts_lens (l x : List S45) (hx : x ∈ (if Valid l then partsUpto (gridF l) 256 else [])) : x.length ≤ 9223372036854775806 := by
  split at hx
  · unfold partsUpto at hx
    rw [List.mem_map] at hx
    obtain ⟨p, _, rfl⟩ := hx
    have := runsL_length (partF (gridF l) p)
    omega
  · cases hx

theorem laws_FnPartsOfGrown.ev_l1 (f : Nat → Bool) (i : Nat) (hlt : i < (seedsL f).length) (hR : Ev (fun k => laws_FnPartsOfGrown.l0 k (partsUpto f 256) ((i + 1 : Nat) : Int)) true) (d : Nat) : ∀ k, k ≤ (seedsL f).length → (seedsL f).length - k = d →
    Ev (fun n => laws_FnPartsOfGrown.l1 n (partsUpto f 256) (i : Int) (runsL (growN (partF f (seedsL f)[i]) 1)) (k : Int)) true := by
  have hlen := parts_seeds f
  have hsl := seeds_le f
  induction d with
  | zero =>
    intro k hk hd
    exact Ev.step (fun n => by simp only [laws_FnPartsOfGrown.l1, wrapSucc i (by omega)]; rfl) (evNeg (by omega) hR)
  | succ d ih =>
    intro k hk hd
    have hkl : k < (seedsL f).length := by omega
    have hnext := ih (k + 1) (by omega) (by omega)
    refine Ev.step (fun n => by simp only [laws_FnPartsOfGrown.l1, wrapSucc k (by omega)]; rfl) ?_
    refine evPos (by omega) (evIf (fun _ => hnext) (fun hne => evPos (by omega) ?_))
    have hne2 := seeds_apart f i k hlt hkl (by omega)
    obtain ⟨hs, hf⟩ := seeds_mem f i hlt
    obtain ⟨hs2, hf2⟩ := seeds_mem f k hkl
    have hc := combined_val (runsL (growN (partF f (seedsL f)[i]) 1)) (runsL_valid _) (partF f (seedsL f)[k]) 1 (by omega) (by omega)
    have e : runsL (combF 1 (gridF (runsL (growN (partF f (seedsL f)[i]) 1))) (partF f (seedsL f)[k])) = [] := by
      rw [runsL_nil_iff]
      intro q hq
      unfold combF combB
      rw [if_neg (by omega), if_pos rfl, gridF_runsL _ q hq]
      cases hg : growN (partF f (seedsL f)[i]) 1 q with
      | false => rfl
      | true =>
        rw [grown_apart f _ _ q hs hs2 hq hf hf2 hne2 hg]
        rfl
    rw [e, ← part_at f k hkl] at hc
    exact evFix hc (evNeg (by simp) hnext)
theorem laws_FnPartsOfGrown.ev_l0 (f : Nat → Bool) (d : Nat) : ∀ i, i ≤ (seedsL f).length → (seedsL f).length - i = d →
    Ev (fun k => laws_FnPartsOfGrown.l0 k (partsUpto f 256) (i : Int)) true := by
  have hlen := parts_seeds f
  induction d with
  | zero =>
    intro i hi hd
    exact Ev.step (fun k => by simp only [laws_FnPartsOfGrown.l0]; rfl) (evNeg (by omega) (evRet rfl))
  | succ d ih =>
    intro i hi hd
    have hlt : i < (seedsL f).length := by omega
    have hnext := ih (i + 1) (by omega) (by omega)
    have hg : impl_GrowRegion.f (runsL (partF f (seedsL f)[i])) 1 = some (runsL (growN (gridF (runsL (partF f (seedsL f)[i]))) 1)) := grow_val _ (runsL_valid _) 1 (by omega)
    rw [runsL_congr (fun q hq => growN_congr (fun j hj => gridF_runsL _ j hj) 1 q hq), ← part_at f i hlt] at hg
    refine Ev.step (fun k => by simp only [laws_FnPartsOfGrown.l0]; rfl) (evPos (by omega) (evPos (by omega) (evFix hg ?_)))
    exact laws_FnPartsOfGrown.ev_l1 f i hlt hnext _ 0 (by omega) rfl
theorem FnPartsOfGrown : laws_FnPartsOfGrown.Pure := by
  intro l _ _ hw
  refine Ev.rounds ?_
  obtain ⟨a, hd, hla⟩ := spec_DrawPartsOf.ev l hw
  have hs := spec_PartsOf.ev a (by omega)
  have hi : impl_PartsOf.f a = some (if Valid a then partsUpto (gridF a) 256 else []) := rfl
  have hlen := parts_len a
  have heq := laws_equalParts.refl (if Valid a then partsUpto (gridF a) 256 else []) (by omega) (fun x hx => parts_lens a x hx)
  unfold laws_FnPartsOfGrown.f
  refine evIf (fun _ => evRet rfl) (fun _ => evBind hd (evFix hi (evBind hs (evBind heq (evPos rfl ?_)))))
  by_cases hv : Valid a
  · rw [if_pos hv]
    exact laws_FnPartsOfGrown.ev_l0 (gridF a) _ 0 (by omega) rfl
  · rw [if_neg hv]
    exact Ev.step (fun k => by simp only [laws_FnPartsOfGrown.l0]; rfl) (evNeg (by simp) (evRet rfl))

end Go.Proofs.Ytceoecmjccakgaa.Pure
