/- FnExactLineRegion answers true for all arguments: the program's LineRegion is the reference's, and its result is memory of its own. No condition. -/
import Derived.Test.YtifjkllkbciliaaPrintHhandRuns
import Derived.Test.YtifjkllkbciliaaPrintHhandWords
import Derived.Test.YtifjkllkbciliaaPrintHimplDiscRegion
import Derived.Test.YtifjkllkbciliaaPrintHimplLineRegion
import Derived.Test.YtifjkllkbciliaaPrintR0x0
import Derived.Test.YtifjkllkbciliaaPrintR0x1
import Derived.Test.YtifjkllkbciliaaPrintR0x2
import Derived.Test.YtifjkllkbciliaaPrintR0x3
import Derived.Test.YtifjkllkbciliaaPrintR0x4
import Derived.Test.YtifjkllkbciliaaPrintR2x0
namespace Go.Proofs.Ytifjkllkbciliaa.Pure
open Go.RowKit Go.Proofs.Ytifjkllkbciliaa.Print Go.Proofs.YtifjkllkbciliaaW.PrintWords Go.Proofs.YtifjkllkbciliaaW.PrintLast Go.Proofs.YtifjkllkbciliaaW.PrintMore
set_option linter.unusedVariables false
set_option linter.unusedSimpArgs false
/-! ### Lists of numbers: reading, and loops over them -/
theorem rdN (l : List Int) (k : Nat) (h : k < l.length) : rd l (k : Int) = l[k] := by
  simp [rd, List.getD_eq_getElem?_getD, List.getElem?_eq_getElem h]
theorem drop_cons_ {α : Type} (l : List α) (k : Nat) (h : k < l.length) : l.drop k = l[k] :: l.drop (k + 1) := List.drop_eq_getElem_cons h
theorem take_snocN {α : Type} (l : List α) (k : Nat) (h : k < l.length) : l.take (k + 1) = l.take k ++ [l[k]] := by
  rw [List.take_succ_eq_append_getElem h]
theorem eq_of_getElem {α : Type} (a b : List α) (h : a.length = b.length) (hh : ∀ i (h1 : i < a.length) (h2 : i < b.length), a[i] = b[i]) : a = b := List.ext_getElem h hh
/-- Two lists of one length, from a place on. -/
theorem decide_drop_eq {α : Type} [DecidableEq α] (a b : List α) (i : Nat) (h1 : i < a.length) (h2 : i < b.length) : decide (a.drop i = b.drop i) = (decide (a[i] = b[i]) && decide (a.drop (i + 1) = b.drop (i + 1))) := by
  rw [drop_cons_ a i h1, drop_cons_ b i h2]
  rw [Bool.eq_iff_iff]
  simp only [decide_eq_true_eq, Bool.and_eq_true, List.cons.injEq]

theorem laws_eqRunS.refl_l0 (a : List S45) (hl : a.length ≤ 9223372036854775806) (d : Nat) : ∀ i, i ≤ a.length → a.length - i = d →
    Ev (fun k => laws_eqRunS.l0 k a a (i : Int)) true := by
  induction d with
  | zero =>
    intro i hi hd
    exact Ev.step (fun k => by simp only [laws_eqRunS.l0]; rfl) (evNeg (by omega) (evRet rfl))
  | succ d ih =>
    intro i hi hd
    have hw : wrap64 ((i : Int) + 1) = ((i + 1 : Nat) : Int) := wrapSucc i (by omega)
    have := ih (i + 1) (by omega) (by omega)
    refine Ev.step (f := fun k => laws_eqRunS.l0 k a a ((i + 1 : Nat) : Int)) (fun k => ?_) this
    simp only [laws_eqRunS.l0, hw, laws_eqRun.f]
    rw [if_pos (by omega), if_pos (by omega), if_pos (by omega)]
    simp
theorem laws_eqRunS.refl (a : List S45) (hl : a.length ≤ 9223372036854775806) : Ev (fun k => laws_eqRunS.f k a a) true := by
  unfold laws_eqRunS.f
  exact evPos rfl (laws_eqRunS.refl_l0 a hl a.length 0 (by omega) (by omega))
/-- What is left behind the marking of runs. -/
def marksR (m : Int) : Nat → List S45
  | 0 => []
  | n + 1 => ⟨m, m + 1, m + 2⟩ :: marksR (m + 3) n
theorem marksR_length (m : Int) (n : Nat) : (marksR m n).length = n := by
  induction n generalizing m with
  | zero => rfl
  | succ n ih => simp [marksR, ih]
theorem marksR_snoc (m : Int) (n : Nat) : marksR m (n + 1) = marksR m n ++ [⟨m + 3 * n, m + 3 * n + 1, m + 3 * n + 2⟩] := by
  induction n generalizing m with
  | zero => simp [marksR]
  | succ n ih =>
    rw [marksR, ih (m + 3), marksR]
    simp
    omega
theorem marksR_get (m : Int) (n i : Nat) (h : i < n) (h' : i < (marksR m n).length) : (marksR m n)[i] = ⟨m + 3 * i, m + 3 * i + 1, m + 3 * i + 2⟩ := by
  induction n generalizing m i with
  | zero => omega
  | succ n ih =>
    cases i with
    | zero => simp [marksR]
    | succ i =>
      simp only [marksR, List.getElem_cons_succ]
      rw [ih (m + 3) i (by omega) (by rw [marksR_length]; omega)]
      simp
      omega
theorem rdRunN (l : List S45) (k : Nat) (h : k < l.length) : rd_T45 l (k : Int) = l[k] := by
  simp [rd_T45, List.getD_eq_getElem?_getD, List.getElem?_eq_getElem h]
theorem rd_set_same (l : List S45) (k : Nat) (h : k < l.length) (x : S45) : rd_T45 (l.set k x) (k : Int) = x := by
  rw [rdRunN _ k (by simpa using h)]
  simp
theorem laws_markRunS.ev_l0 (l : List S45) (m : Int) (hm : 0 ≤ m) (hl : m + 3 * l.length ≤ 9223372036854775800) (d : Nat) : ∀ i, i ≤ l.length → l.length - i = d →
    Ev (fun k => laws_markRunS.l0 k (marksR m i ++ l.drop i) (m + 3 * i) (i : Int)) (m + 3 * l.length, marksR m l.length) := by
  induction d with
  | zero =>
    intro i hi hd
    have hil : i = l.length := by omega
    refine Ev.step (fun k => by simp only [laws_markRunS.l0]; rfl) (evNeg (by simp [marksR_length]; omega) (evRet ?_))
    rw [hil]
    simp
  | succ d ih =>
    intro i hi hd
    have hw : wrap64 ((i : Int) + 1) = ((i + 1 : Nat) : Int) := wrapSucc i (by omega)
    have hw1 : wrap64 (m + 3 * i + 1) = m + 3 * i + 1 := wrapIn (by omega) (by omega)
    have hw2 : wrap64 (m + 3 * i + 1 + 1) = m + 3 * i + 2 := by rw [wrapIn (by omega) (by omega)]; omega
    have hw3 : wrap64 (m + 3 * i + 2 + 1) = m + 3 * ((i + 1 : Nat) : Int) := by rw [wrapIn (by omega) (by omega)]; omega
    have hlen : i < (marksR m i ++ l.drop i).length := by simp [marksR_length]; omega
    have hs : (marksR m i ++ l.drop i).set i (⟨m + 3 * i, m + 3 * i + 1, m + 3 * i + 2⟩ : S45) = marksR m (i + 1) ++ l.drop (i + 1) := by
      rw [List.set_append_right _ _ (by rw [marksR_length]; omega), marksR_length, Nat.sub_self, drop_cons_ l i (by omega), List.set_cons_zero, marksR_snoc, List.append_assoc]
      rfl
    have := ih (i + 1) (by omega) (by omega)
    refine Ev.step (f := fun k => laws_markRunS.l0 k (marksR m (i + 1) ++ l.drop (i + 1)) (m + 3 * ((i + 1 : Nat) : Int)) ((i + 1 : Nat) : Int)) (fun k => ?_) this
    simp only [laws_markRunS.l0, hw, hw1, hw2, hw3]
    rw [if_pos (by omega), if_pos (by omega)]
    simp only [Option.bind_some, Int.toNat_natCast, List.set_set, rd_set_same _ i hlen, hs]
theorem laws_markRunS.ev (l : List S45) (m : Int) (hm : 0 ≤ m) (hl : m + 3 * l.length ≤ 9223372036854775800) : Ev (fun k => laws_markRunS.f k l m) (m + 3 * l.length, marksR m l.length) := by
  have := laws_markRunS.ev_l0 l m hm hl l.length 0 (by omega) (by omega)
  unfold laws_markRunS.f
  simpa [marksR] using this
theorem laws_heldRunS.ev_l0 (n : Nat) (m : Int) (hm : 0 ≤ m) (hl : m + 3 * n ≤ 9223372036854775800) (d : Nat) : ∀ i, i ≤ n → n - i = d →
    Ev (fun k => laws_heldRunS.l0 k (marksR m n) (m + 3 * i) (i : Int)) (m + 3 * n) := by
  induction d with
  | zero =>
    intro i hi hd
    have hil : i = n := by omega
    refine Ev.step (fun k => by simp only [laws_heldRunS.l0]; rfl) (evNeg (by rw [marksR_length]; omega) (evRet ?_))
    rw [hil]
  | succ d ih =>
    intro i hi hd
    have hw : wrap64 ((i : Int) + 1) = ((i + 1 : Nat) : Int) := wrapSucc i (by omega)
    have hw1 : wrap64 (m + 3 * i + 1) = m + 3 * i + 1 := wrapIn (by omega) (by omega)
    have hw2 : wrap64 (m + 3 * i + 1 + 1) = m + 3 * i + 2 := by rw [wrapIn (by omega) (by omega)]; omega
    have hw3 : wrap64 (m + 3 * i + 2 + 1) = m + 3 * ((i + 1 : Nat) : Int) := by rw [wrapIn (by omega) (by omega)]; omega
    have := ih (i + 1) (by omega) (by omega)
    refine Ev.step (f := fun k => laws_heldRunS.l0 k (marksR m n) (m + 3 * ((i + 1 : Nat) : Int)) ((i + 1 : Nat) : Int)) (fun k => ?_) this
    simp only [laws_heldRunS.l0, hw, hw1, hw2, hw3]
    rw [if_pos (by rw [marksR_length]; omega), if_pos (by omega), rdRunN _ i (by rw [marksR_length]; omega), marksR_get m n i (by omega)]
    simp
theorem laws_heldRunS.ev (n : Nat) (m : Int) (hm : 0 ≤ m) (hl : m + 3 * n ≤ 9223372036854775800) : Ev (fun k => laws_heldRunS.f k (marksR m n) m) (m + 3 * n) := by
  have := laws_heldRunS.ev_l0 n m hm hl n 0 (by omega) (by omega)
  unfold laws_heldRunS.f
  simpa using this

/-! ### Grids as lists of 256 -/
def gl (f : Nat → Bool) : List Bool := (List.range 256).map f
theorem gl_length (f : Nat → Bool) : (gl f).length = 256 := by simp [gl]
theorem gl_rd (f : Nat → Bool) (i : Nat) (h : i < 256) : rdOf false (gl f) (i : Int) = f i := by
  simp [rdOf, gl, List.getD_eq_getElem?_getD, List.getElem?_map, List.getElem?_range h]
theorem gl_get (f : Nat → Bool) (j : Nat) (h : j < (gl f).length) : (gl f)[j] = f j := by simp [gl]
theorem gl_set (f : Nat → Bool) (i : Nat) (b : Bool) : (gl f).set i b = gl (fun j => if j = i then b else f j) := by
  apply List.ext_getElem
  · simp [gl]
  · intro j h1 h2
    simp only [List.getElem_set, gl, List.getElem_map, List.getElem_range]
    by_cases h : i = j
    · subst h; simp
    · rw [if_neg h, if_neg (fun e => h e.symm)]
theorem gl_congr {f g : Nat → Bool} (h : ∀ i, i < 256 → f i = g i) : gl f = gl g := by
  unfold gl
  exact List.map_congr_left fun i hi => h i (by simpa using hi)
theorem gl_false : List.replicate 256 false = gl (fun _ => false) := by
  apply List.ext_getElem
  · rw [List.length_replicate, gl_length]
  · intro j h1 h2
    rw [List.getElem_replicate, gl_get]
theorem runAt_congr {f g : Nat → Bool} (h : ∀ i, i < 256 → f i = g i) (i : Nat) (hi : i < 256) : runAt f i = runAt g i := by
  have he : ∀ y, y < 16 → ∀ d, d ≤ 16 → endAt f y d = endAt g y d := by
    intro y hy d
    induction d with
    | zero => intro _; rfl
    | succ d ih =>
      intro hd
      simp only [endAt]
      rw [h (16 * y + (15 - d)) (by omega), ih (by omega)]
  have hs : startB f i = startB g i := by
    unfold startB
    rw [h i hi, h (i - 1) (by omega)]
  unfold runAt endOf
  rw [hs, he (i / 16) (by omega) _ (by omega)]
theorem runsL_congr {f g : Nat → Bool} (h : ∀ i, i < 256 → f i = g i) : runsL f = runsL g := by
  unfold runsL runsUpto
  have : ∀ l : List Nat, (∀ i ∈ l, i < 256) → l.filterMap (runAt f) = l.filterMap (runAt g) := by
    intro l
    induction l with
    | nil => intro _; rfl
    | cons a t ih =>
      intro hl
      rw [List.filterMap_cons, List.filterMap_cons, runAt_congr h a (hl a (by simp)), ih (fun i hi => hl i (by simp [hi]))]
  exact this _ (fun i hi => by simpa using hi)

/-! ### The reader of draws -/
/-- A code that a reader reads. -/
def CodeOk (b : List Int) : Prop := b.length ≤ 2000 ∧ ∀ x ∈ b, 0 ≤ x ∧ x ≤ 255
theorem code_rd (b : List Int) (h : CodeOk b) (i : Int) (h0 : 0 ≤ i) (h1 : i < b.length) : 0 ≤ rd b i ∧ rd b i ≤ 255 := by
  obtain ⟨n, rfl⟩ := Int.eq_ofNat_of_zero_le h0
  rw [rdN b n (by omega)]
  exact h.2 _ (List.getElem_mem _)
theorem xor_nonneg (a b : Int) (ha : 0 ≤ a) (ha1 : a < 4611686018427387904) (hb : 0 ≤ b) (hb1 : b < 4611686018427387904) : 0 ≤ Go.bits .xor .i64 a b := by
  obtain ⟨n, rfl⟩ := Int.eq_ofNat_of_zero_le ha
  obtain ⟨m, rfl⟩ := Int.eq_ofNat_of_zero_le hb
  have hx : n ^^^ m < 2 ^ 62 := Nat.xor_lt_two_pow (by omega) (by omega)
  have e : Go.bits .xor .i64 (n : Int) (m : Int) = ((n ^^^ m : Nat) : Int) := by
    have hp : (2 : Nat) ^ IntKind.i64.bits = 18446744073709551616 := by decide
    have ha' : n % 2 ^ IntKind.i64.bits = n := Nat.mod_eq_of_lt (by omega)
    have hb' : m % 2 ^ IntKind.i64.bits = m := Nat.mod_eq_of_lt (by omega)
    simp only [bits, BitVec.ofInt_natCast, BitVec.toNat_xor, BitVec.toNat_ofNat, ha', hb']
    rw [IntKind.wrap_i64]
    omega
  rw [e]
  omega
theorem spec_reader_pick.ev (b : List Int) (h : CodeOk b) (p n : Int) (hp0 : 0 ≤ p) (hp1 : p < 1000000000) (hn : n ≤ 1000000) : ∃ v, Ev (fun k => spec_reader_pick.f k b p n) (v, p + 1) ∧ 0 ≤ v ∧ (v < n ∨ v = 0) := by
  have hw : wrap64 (p + 1) = p + 1 := wrapIn (by omega) (by omega)
  have hw1 : wrap64 (p + 1 - 1) = p := by rw [wrapIn (by omega) (by omega)]; omega
  unfold spec_reader_pick.f
  rw [hw]
  by_cases hn1 : n < 1
  · refine ⟨0, evPos hn1 (Ev.step (fun k => by simp only [spec_reader_pick.j0]; rfl) (evPos (by trivial) (evRet rfl))), by omega, .inr rfl⟩
  by_cases hb : (b.length : Int) = 0
  · refine ⟨0, evNeg hn1 (Ev.step (fun k => by simp only [spec_reader_pick.j0]; rfl) (evPos (by simp [hb]) (evRet rfl))), by omega, .inr rfl⟩
  have hbf : ((b.length : Int) == 0) = false := by simpa using hb
  have hl := h.1
  by_cases hlt : p < (b.length : Int)
  · have hr := code_rd b h p hp0 hlt
    refine ⟨Int.tmod (wrap64 (rd b p)) n, evNeg hn1 (Ev.step (fun k => by simp only [spec_reader_pick.j0, hbf, hw1]; rfl) (evNeg (by simp) (evPos hlt (evPos hp0 (evNeg (by omega) (evRet rfl)))))), ?_, .inl ?_⟩
    · exact Int.tmod_nonneg _ (by rw [wrapIn (by omega) (by omega)]; omega)
    · exact Int.tmod_lt_of_pos _ (by omega)
  · have hm0 : 0 ≤ Int.tmod p (b.length : Int) := Int.tmod_nonneg _ hp0
    have hm1 : Int.tmod p (b.length : Int) < b.length := Int.tmod_lt_of_pos _ (by omega)
    have hq : wrap64 (wrap64 (p * 7) + 3) = p * 7 + 3 := by rw [wrapIn (x := p * 7) (by omega) (by omega), wrapIn (by omega) (by omega)]
    have hk0 : 0 ≤ Int.tmod (p * 7 + 3) (b.length : Int) := Int.tmod_nonneg _ (by omega)
    have hk1 : Int.tmod (p * 7 + 3) (b.length : Int) < b.length := Int.tmod_lt_of_pos _ (by omega)
    have r1 := code_rd b h _ hm0 hm1
    have r2 := code_rd b h _ hk0 hk1
    have hd0 : 0 ≤ Int.tdiv p (b.length : Int) := Int.tdiv_nonneg hp0 (by omega)
    have hd1 : Int.tdiv p (b.length : Int) ≤ p := by
      have := Int.natAbs_tdiv_le_natAbs p (b.length : Int)
      omega
    refine ⟨_, evNeg hn1 (Ev.step (fun k => by simp only [spec_reader_pick.j0, hbf, hw1, hq]; rfl) (evNeg (by simp) (evNeg hlt (evNeg hb (evPos hm0 (evPos hm1 (evPos hk0 (evPos hk1 (evNeg (by omega) (evRet rfl)))))))))), ?_, .inl (Int.tmod_lt_of_pos _ (by omega))⟩
    generalize rd b (Int.tmod p (b.length : Int)) = u at *
    generalize rd b (Int.tmod (p * 7 + 3) (b.length : Int)) = t at *
    generalize Int.tdiv p (b.length : Int) = q at *
    rw [wrapIn (x := u) (by omega) (by omega), wrapIn (x := t) (by omega) (by omega), wrapIn (x := q) (by omega) (by omega), wrapIn (x := u * 131) (by omega) (by omega), wrapIn (x := t * 1117) (by omega) (by omega), wrapIn (x := u * 131 + t * 1117) (by omega) (by omega), wrapIn (x := p * 29) (by omega) (by omega), wrapIn (x := u * 131 + t * 1117 + p * 29) (by omega) (by omega), wrapIn (x := q * 53) (by omega) (by omega), wrapIn (x := u * 131 + t * 1117 + p * 29 + q * 53) (by omega) (by omega)]
    generalize hX : u * 131 + t * 1117 + p * 29 + q * 53 = X
    have hX0 : 0 ≤ X := by omega
    have hX1 : X < 4611686018427387904 := by omega
    have hT0 : 0 ≤ Int.tdiv X 64 := Int.tdiv_nonneg hX0 (by omega)
    have hT1 : Int.tdiv X 64 ≤ X := by
      have := Int.natAbs_tdiv_le_natAbs X 64
      omega
    rw [wrapIn (x := Int.tdiv X 64) (by omega) (by omega)]
    exact Int.tmod_nonneg _ (xor_nonneg _ _ hX0 hX1 hT0 (by omega))
theorem spec_newReader.ev (l : List Int) (hw : ∀ x ∈ l, (Lit.int .u8 x).wf = true) : ∃ b, spec_newReader.f l = some (b, 0) ∧ CodeOk b := by
  have hx : ∀ x ∈ l, 0 ≤ x ∧ x ≤ 255 := fun x hx => by
    have := hw x hx
    have hmin : IntKind.u8.min = 0 := rfl
    have hmax : IntKind.u8.max = 255 := rfl
    simp only [Lit.wf, Bool.and_eq_true, decide_eq_true_eq] at this
    omega
  unfold spec_newReader.f
  by_cases h : (l.length : Int) > 2000
  · rw [if_pos h, if_pos (by omega)]
    exact ⟨_, rfl, by simp; omega, fun x h2 => hx x (List.mem_of_mem_take h2)⟩
  · rw [if_neg h]
    exact ⟨_, rfl, by omega, hx⟩

/-- The reference's runs of a row, from column x on. -/
def RowAt (f : Nat → Bool) (y : Nat) (out : List S45) (fr : Int) (x : Nat) : Prop :=
  (fr = -1 ∧ (x = 0 ∨ f (16 * y + x - 1) = false) ∧ out = runsUpto f (16 * y + x)) ∨
  ∃ a : Nat, fr = (a : Int) ∧ a < x ∧ (∀ i, a ≤ i → i < x → f (16 * y + i) = true) ∧ (a = 0 ∨ f (16 * y + a - 1) = false) ∧ out = runsUpto f (16 * y + a)
theorem endOf_eq (f : Nat → Bool) (y a x : Nat) (hax : a ≤ x) (hx : x ≤ 16) (h : ∀ i, a ≤ i → i < x → f (16 * y + i) = true) (he : x = 16 ∨ f (16 * y + x) = false) : endOf f y a = x := by
  obtain ⟨h1, h2, h3, h4⟩ := endOf_facts f y (16 - a) a (by omega) rfl
  rcases Nat.lt_trichotomy (endOf f y a) x with hh | hh | hh
  · have := h (endOf f y a) h1 hh
    rw [h4 (by omega)] at this
    cases this
  · exact hh
  · rcases he with he | he
    · omega
    · have := h3 x hax hh
      rw [he] at this
      cases this
theorem spec_runsOf.ev_l1 (f : Nat → Bool) (y : Nat) (hy : y < 16) (R : List S45) (hR : Ev (fun k => spec_runsOf.l0 k (gl f) (runsUpto f (16 * (y + 1))) ((y + 1 : Nat) : Int)) R) (d : Nat) : ∀ x out fr, x ≤ 17 → 17 - x = d → (x = 17 → fr = -1 ∧ out = runsUpto f (16 * (y + 1))) → (x ≤ 16 → RowAt f y out fr x) →
    Ev (fun k => spec_runsOf.l1 k (gl f) out (y : Int) fr (x : Int)) R := by
  have hwy : wrap64 ((y : Int) + 1) = ((y + 1 : Nat) : Int) := wrapSucc y (by omega)
  induction d with
  | zero =>
    intro x out fr hx hd h17 _
    obtain ⟨_, rfl⟩ := h17 (by omega)
    exact Ev.step (fun k => by simp only [spec_runsOf.l1, hwy]; rfl) (evNeg (by omega) hR)
  | succ d ih =>
    intro x out fr hx hd _ hrow
    have hrow := hrow (by omega)
    have hw : wrap64 ((x : Int) + 1) = ((x + 1 : Nat) : Int) := wrapSucc x (by omega)
    have hlen : ∀ n, (runsUpto f n).length < 5864062014805 ∨ 5864062014805 ≤ n := fun n => by have := runsUpto_length f n; omega
    refine Ev.step (fun k => by simp only [spec_runsOf.l1, hwy]; rfl) (evPos (by omega) ?_)
    -- the pixel there
    obtain ⟨p, hp, hgo⟩ : ∃ p : Bool, (x < 16 ∧ p = f (16 * y + x) ∨ x = 16 ∧ p = false) ∧ (Ev (fun k => spec_runsOf.j2 k (gl f) out (y : Int) fr (x : Int) p) R → Ev (fun k => if (x : Int) < 16 then (if 0 ≤ (wrap64 ((wrap64 ((y : Int) * 16)) + x)) then (if (wrap64 ((wrap64 ((y : Int) * 16)) + x)) < ((gl f).length : Int) then (spec_runsOf.j2 k (gl f) out (y : Int) fr (x : Int) (rdOf false (gl f) (wrap64 ((wrap64 ((y : Int) * 16)) + x)))) else (none)) else (none)) else (spec_runsOf.j2 k (gl f) out (y : Int) fr (x : Int) false)) R) := by
      by_cases h : x < 16
      · have hi : wrap64 ((wrap64 ((y : Int) * 16)) + x) = ((16 * y + x : Nat) : Int) := by rw [wrapIn (x := (y : Int) * 16) (by omega) (by omega), wrapIn (by omega) (by omega)]; omega
        refine ⟨f (16 * y + x), .inl ⟨h, rfl⟩, fun he => ?_⟩
        rw [hi]
        refine evPos (by omega) (evPos (by omega) (evPos (by rw [gl_length]; omega) ?_))
        rw [gl_rd f _ (by omega)]
        exact he
      · exact ⟨false, .inr ⟨by omega, rfl⟩, fun he => evNeg (by omega) he⟩
    refine hgo ?_
    have hnext : RowAt f y (if p = true then out else if fr = -1 then out else out ++ [⟨(y : Int), fr, (x : Int)⟩]) (if p = true then (if fr = -1 then (x : Int) else fr) else -1) (x + 1) ∨ x = 16 := by
      rcases hp with ⟨h16, hp⟩ | ⟨h16, _⟩
      · left
        rcases hrow with ⟨rfl, hprev, rfl⟩ | ⟨a, rfl, ha, hall, hprev, rfl⟩
        · cases hpv : p with
          | true =>
            right
            refine ⟨x, by simp, by omega, fun i h1 h2 => ?_, hprev, by simp⟩
            obtain rfl : i = x := by omega
            rw [← hp, hpv]
          | false =>
            left
            refine ⟨by simp, .inr (by rw [show 16 * y + (x + 1) - 1 = 16 * y + x by omega, ← hp, hpv]), ?_⟩
            rw [if_neg (by simp), if_pos rfl, show 16 * y + (x + 1) = 16 * y + x + 1 by omega, runsUpto_false f _ (by rw [← hp, hpv])]
        · have hne : ¬ ((a : Int) = -1) := by omega
          cases hpv : p with
          | true =>
            right
            refine ⟨a, by simp [hne], by omega, fun i h1 h2 => ?_, hprev, by simp⟩
            rcases Nat.lt_or_ge i x with h3 | h3
            · exact hall i h1 h3
            · obtain rfl : i = x := by omega
              rw [← hp, hpv]
          | false =>
            left
            have hf0 : f (16 * y + x) = false := by rw [← hp, hpv]
            have hend := endOf_eq f y a x (by omega) (by omega) hall (.inr hf0)
            refine ⟨by simp, .inr (by rw [show 16 * y + (x + 1) - 1 = 16 * y + x by omega]; exact hf0), ?_⟩
            have hrun := runsUpto_run f y a (by omega) (hall a (by omega) ha) hprev
            rw [hend] at hrun
            rw [if_neg (by simp), if_neg hne, show 16 * y + (x + 1) = 16 * y + x + 1 by omega, runsUpto_false f _ hf0, hrun]
      · exact .inr h16
    have hlast : x = 16 → (if p = true then (if fr = -1 then (x : Int) else fr) else (-1 : Int)) = -1 ∧ (if p = true then out else if fr = -1 then out else out ++ [⟨(y : Int), fr, (x : Int)⟩]) = runsUpto f (16 * (y + 1)) := by
      intro h16
      have hpf : p = false := by
        rcases hp with ⟨h, _⟩ | ⟨_, h⟩
        · omega
        · exact h
      subst hpf
      refine ⟨by simp, ?_⟩
      rw [if_neg (by simp)]
      rcases hrow with ⟨rfl, hprev, rfl⟩ | ⟨a, rfl, ha, hall, hprev, rfl⟩
      · rw [if_pos rfl, h16]
        rfl
      · rw [if_neg (by omega)]
        have hend := endOf_eq f y a x (by omega) (by omega) hall (.inl h16)
        have hrun := runsUpto_run f y a (by omega) (hall a (by omega) ha) hprev
        rw [hend] at hrun
        rw [← hrun, h16]
        rfl
    have hcont := ih (x + 1) (if p = true then out else if fr = -1 then out else out ++ [⟨(y : Int), fr, (x : Int)⟩]) (if p = true then (if fr = -1 then (x : Int) else fr) else -1) (by omega) (by omega) (fun h => hlast (by omega)) (fun h => by
      rcases hnext with h2 | h2
      · exact h2
      · omega)
    have hfr : fr = -1 ∨ 0 ≤ fr := by
      rcases hrow with ⟨rfl, _⟩ | ⟨a, rfl, _⟩
      · exact .inl rfl
      · exact .inr (by omega)
    have hol : out.length < 5864062014805 := by
      rcases hrow with ⟨_, _, rfl⟩ | ⟨a, _, _, _, _, rfl⟩
      · rcases hlen (16 * y + x) with h | h <;> omega
      · rcases hlen (16 * y + a) with h | h <;> omega
    cases p with
    | true =>
      rw [if_pos rfl, if_pos rfl] at hcont
      refine Ev.step (fun k => by simp only [spec_runsOf.j2]; rfl) ?_
      refine evPos (by trivial) ?_
      refine Ev.step (fun k => by simp only [spec_runsOf.j3, hw]; rfl) ?_
      rcases hfr with rfl | h0
      · rw [if_pos rfl] at hcont
        exact evPos (by simp) (evPos (by trivial) hcont)
      · rw [if_neg (by omega)] at hcont
        exact evNeg (by simp; omega) (evPos (by trivial) hcont)
    | false =>
      simp only [Bool.false_eq_true, if_false] at hcont
      refine Ev.step (fun k => by simp only [spec_runsOf.j2]; rfl) ?_
      refine evNeg (by first | exact not_false | simp) ?_
      refine Ev.step (fun k => by simp only [spec_runsOf.j3, hw]; rfl) ?_
      refine evNeg (by first | exact not_false | simp) ?_
      refine evNeg (by first | exact not_false | simp) ?_
      rcases hfr with rfl | h0
      · rw [if_pos rfl] at hcont
        exact evNeg (by omega) hcont
      · rw [if_neg (by omega)] at hcont
        exact evPos (by omega) (evPos hol hcont)
theorem spec_runsOf.ev_l0 (f : Nat → Bool) (d : Nat) : ∀ y, y ≤ 16 → 16 - y = d → Ev (fun k => spec_runsOf.l0 k (gl f) (runsUpto f (16 * y)) (y : Int)) (runsL f) := by
  induction d with
  | zero =>
    intro y hy hd
    obtain rfl : y = 16 := by omega
    exact Ev.step (fun k => by simp only [spec_runsOf.l0]; rfl) (evNeg (by omega) (evRet rfl))
  | succ d ih =>
    intro y hy hd
    refine Ev.step (fun k => by simp only [spec_runsOf.l0]; rfl) (evPos (by omega) ?_)
    have := spec_runsOf.ev_l1 f y (by omega) (runsL f) (ih (y + 1) (by omega) (by omega)) 17 0 (runsUpto f (16 * y)) (-1) (by omega) rfl (fun h => by omega) (fun _ => .inl ⟨rfl, .inl rfl, rfl⟩)
    exact this
theorem spec_runsOf.ev (f : Nat → Bool) : Ev (fun k => spec_runsOf.f k (gl f)) (runsL f) := spec_runsOf.ev_l0 f 16 0 (by omega) rfl

theorem inRange_val (a lo hi : Int) : spec_inRange.f a lo hi = some (decide (lo ≤ a ∧ a ≤ hi)) := by
  unfold spec_inRange.f
  split
  · rename_i h; simp [h]
  · rename_i h; simp [h]
theorem onGrid_val (a b : Int) : spec_onGrid.f a b = some (decide ((0 ≤ a ∧ a ≤ 15) ∧ (0 ≤ b ∧ b ≤ 15))) := by
  unfold spec_onGrid.f
  rw [inRange_val, inRange_val]
  simp only [Option.bind_some]
  by_cases h : 0 ≤ a ∧ a ≤ 15
  · simp [h]
  · simp [h]
theorem spec_DiscRegion.ev_l0 (x y r : Int) (hk : discOk x y r) (d : Nat) : ∀ p, p ≤ 256 → 256 - p = d →
    Ev (fun k => spec_DiscRegion.l0 k x y r (gl fun j => decide (j < p) && discF x y r j) (p : Int)) (runsL (discF x y r)) := by
  obtain ⟨h1, h2, h3, h4, h5, h6⟩ := hk
  induction d with
  | zero =>
    intro p hp hd
    obtain rfl : p = 256 := by omega
    refine Ev.step (fun k => by simp only [spec_DiscRegion.l0]; rfl) (evNeg (by rw [gl_length]; omega) ?_)
    rw [gl_congr (g := discF x y r) (fun i hi => by rw [decide_eq_true hi, Bool.true_and])]
    exact evBind (spec_runsOf.ev _) (evRet rfl)
  | succ d ih =>
    intro p hp hd
    have hw : wrap64 ((p : Int) + 1) = ((p + 1 : Nat) : Int) := wrapSucc p (by omega)
    have ht : Int.tmod (p : Int) 16 = ((p % 16 : Nat) : Int) := by rw [Int.tmod_eq_emod_of_nonneg (by omega)]; omega
    have hq : Int.tdiv (p : Int) 16 = ((p / 16 : Nat) : Int) := by rw [Int.tdiv_eq_ediv_of_nonneg (by omega)]; omega
    have q1 := sq_bound ((p % 16 : Nat) : Int) x (by omega) (by omega) h1 (by omega)
    have q2 := sq_bound ((p / 16 : Nat) : Int) y (by omega) (by omega) h3 (by omega)
    have q3 := sq_bound r 0 h5 h6 (by omega) (by omega)
    rw [Int.sub_zero] at q3
    have := ih (p + 1) (by omega) (by omega)
    refine Ev.step (f := fun k => spec_DiscRegion.l0 k x y r (gl fun j => decide (j < p + 1) && discF x y r j) ((p + 1 : Nat) : Int)) (fun k => ?_) this
    simp only [spec_DiscRegion.l0, hw, ht, hq]
    rw [if_pos (by rw [gl_length]; omega), if_pos (by omega), wrapIn (x := ((p / 16 : Nat) : Int)) (by omega) (by omega), wrapIn (x := ((p % 16 : Nat) : Int) - x) (by omega) (by omega), wrapIn (x := ((p / 16 : Nat) : Int) - y) (by omega) (by omega)]
    rw [wrapIn (x := (((p % 16 : Nat) : Int) - x) * (((p % 16 : Nat) : Int) - x)) (by omega) (by omega), wrapIn (x := (((p / 16 : Nat) : Int) - y) * (((p / 16 : Nat) : Int) - y)) (by omega) (by omega), wrapIn (x := r * r) (by omega) (by omega)]
    rw [wrapIn (x := (((p % 16 : Nat) : Int) - x) * (((p % 16 : Nat) : Int) - x) + (((p / 16 : Nat) : Int) - y) * (((p / 16 : Nat) : Int) - y)) (by omega) (by omega)]
    rw [Int.toNat_natCast, gl_set]
    congr 1
    refine gl_congr fun i hi => ?_
    by_cases e : i = p
    · subst e
      rw [if_pos rfl, decide_eq_true (show i < i + 1 by omega), Bool.true_and]
      rfl
    · rw [if_neg e]
      congr 1
      exact decide_eq_decide.mpr (by omega)
theorem spec_DiscRegion.ev (x y r : Int) : Ev (fun k => spec_DiscRegion.f k x y r) (if discOk x y r then runsL (discF x y r) else []) := by
  have hno : ¬ discOk x y r → Ev (fun k => spec_DiscRegion.j0 k x y r true) (if discOk x y r then runsL (discF x y r) else []) := fun h => by
    rw [if_neg h]
    exact Ev.step (fun k => by simp only [spec_DiscRegion.j0]; rfl) (evPos (by trivial) (evRet rfl))
  unfold spec_DiscRegion.f
  refine evFix (onGrid_val x y) (evIf (fun h => ?_) (fun h => ?_))
  · rw [decide_eq_true_eq] at h
    refine evFix (inRange_val r 0 16) ?_
    by_cases h2 : 0 ≤ r ∧ r ≤ 16
    · have hk : discOk x y r := ⟨h.1.1, by omega, h.2.1, by omega, h2.1, h2.2⟩
      rw [decide_eq_true h2, if_pos hk]
      refine Ev.step (fun k => by simp only [spec_DiscRegion.j0]; rfl) ?_
      refine evNeg (by simp) (evPos (by omega) ?_)
      rw [gl_false]
      have := spec_DiscRegion.ev_l0 x y r hk 256 0 (by omega) (by omega)
      rw [gl_congr (g := fun _ => false) (fun i hi => by rw [decide_eq_false (by omega)]; rfl)] at this
      exact this
    · rw [decide_eq_false h2]
      exact hno fun hk => h2 ⟨hk.2.2.2.2.1, hk.2.2.2.2.2⟩
  · rw [decide_eq_true_eq] at h
    exact hno fun hk => h ⟨⟨hk.1, by have := hk.2.1; omega⟩, hk.2.2.1, by have := hk.2.2.2.1; omega⟩
theorem runsL_length (f : Nat → Bool) : (runsL f).length ≤ 256 := runsUpto_length f 256

theorem floor_of_tmod (a b : Int) (hb : 0 < b) : (if Int.tmod a b < 0 then Int.tdiv a b - 1 else Int.tdiv a b) = a / b := by
  rw [← floor_of_tdiv a b hb]
  have h1 := Int.mul_tdiv_add_tmod a b
  rw [Int.mul_comm] at h1
  by_cases h : Int.tmod a b < 0
  · rw [if_pos h, if_pos (by omega)]
  · rw [if_neg h, if_neg (by omega)]
theorem spec_floorDiv.val (a b : Int) (hb : 0 < b) (ha0 : -1000000 ≤ a) (ha1 : a ≤ 1000000) : spec_floorDiv.f a b = some (a / b) := by
  have h1 := Int.natAbs_tdiv_le_natAbs a b
  have hf := floor_of_tmod a b hb
  unfold spec_floorDiv.f
  rw [if_neg (by omega), ← hf]
  generalize Int.tdiv a b = q at *
  have e1 : wrap64 q = q := wrapIn (by omega) (by omega)
  have e2 : wrap64 (q - 1) = q - 1 := wrapIn (by omega) (by omega)
  rw [e1, e2]
  split <;> rfl
theorem spec_distance.val (a : Int) (h0 : -1000 ≤ a) (h1 : a ≤ 1000) : spec_distance.f a = some (absI a) := by
  unfold spec_distance.f absI
  have e : wrap64 (-a) = -a := wrapIn (by omega) (by omega)
  rw [e]
  split <;> rfl
theorem line_q (i n : Nat) (d : Int) (hn : n ≤ 15) (hi : i ≤ n) (h2 : -15 ≤ d) (h3 : d ≤ 15) (hp : 0 < n) :
    spec_floorDiv.f (wrap64 ((wrap64 ((wrap64 (2 * (i : Int))) * d)) + (n : Int))) (wrap64 (2 * (n : Int))) = some ((2 * ((i : Int) * d) + n) / (2 * n)) := by
  have hm := mul_bound_ (i : Int) d (by omega) (by omega) h2 h3
  rw [wrapIn (x := 2 * (i : Int)) (by omega) (by omega), Int.mul_assoc, wrapIn (x := 2 * ((i : Int) * d)) (by omega) (by omega), wrapIn (x := 2 * ((i : Int) * d) + n) (by omega) (by omega), wrapIn (x := 2 * (n : Int)) (by omega) (by omega)]
  exact spec_floorDiv.val _ _ (by omega) (by omega) (by omega)
theorem line_idx (X Y : Nat) (hX : X < 16) (hY : Y < 16) (x y : Int) (hx : x = X) (hy : y = Y) : wrap64 ((wrap64 (y * 16)) + x) = ((16 * Y + X : Nat) : Int) := by
  subst hx hy
  unfold wrap64
  omega
theorem spec_line.ev_l0 (x0 y0 x1 y1 : Int) (hk : lineOk x0 y0 x1 y1) (n : Nat) (hn : lineN x0 y0 x1 y1 = n) (d : Nat) : ∀ i, i ≤ n + 1 → n + 1 - i = d →
    Ev (fun k => spec_line.l0 k (gl (lineUpto x0 y0 x1 y1 i)) x0 y0 x1 y1 (n : Int) (i : Int)) (gl (lineF x0 y0 x1 y1)) := by
  obtain ⟨⟨p0, p1⟩, ⟨p2, p3⟩, ⟨p4, p5⟩, ⟨p6, p7⟩⟩ := hk
  obtain ⟨q1, q2, q3⟩ := lineN_facts x0 y0 x1 y1
  rw [hn] at q1 q2 q3
  have b1 := absI_bounds x0 x1 p0 p1 p4 p5
  have b2 := absI_bounds y0 y1 p2 p3 p6 p7
  have hn15 : n ≤ 15 := by omega
  induction d with
  | zero =>
    intro i hi hd
    obtain rfl : i = n + 1 := by omega
    refine Ev.step (fun k => by simp only [spec_line.l0]; rfl) (evNeg (by omega) (evRet ?_))
    refine gl_congr fun p _ => ?_
    unfold lineF
    rw [hn]
    rfl
  | succ d ih =>
    intro i hi hd
    have hnext := ih (i + 1) (by omega) (by omega)
    have hset : ∀ P : Nat, P = linePix x0 y0 x1 y1 i → (gl (lineUpto x0 y0 x1 y1 i)).set P true = gl (lineUpto x0 y0 x1 y1 (i + 1)) := fun P hP => by
      rw [gl_set]
      refine gl_congr fun p _ => ?_
      rw [lineUpto_succ, ← hP]
      by_cases e : p = P
      · rw [if_pos e, decide_eq_true e, Bool.or_true]
      · rw [if_neg e, decide_eq_false e, Bool.or_false]
    by_cases hz : 0 < n
    · have r1 := lineAt_bounds x0 x1 n i p0 p1 p4 p5 (by omega) (by omega) q1
      have r2 := lineAt_bounds y0 y1 n i p2 p3 p6 p7 (by omega) (by omega) q2
      obtain ⟨X, hX⟩ := Int.eq_ofNat_of_zero_le r1.1
      obtain ⟨Y, hY⟩ := Int.eq_ofNat_of_zero_le r2.1
      have hP : 16 * Y + X = linePix x0 y0 x1 y1 i := by
        unfold linePix
        rw [hn, hX, hY]
        rfl
      have wx : wrap64 (x1 - x0) = x1 - x0 := wrapIn (by omega) (by omega)
      have wy : wrap64 (y1 - y0) = y1 - y0 := wrapIn (by omega) (by omega)
      have e1 := line_q i n (x1 - x0) hn15 (by omega) (by omega) (by omega) hz
      have e2 := line_q i n (y1 - y0) hn15 (by omega) (by omega) (by omega) hz
      have hx : x0 + (2 * ((i : Int) * (x1 - x0)) + n) / (2 * n) = X := hX
      have hy : y0 + (2 * ((i : Int) * (y1 - y0)) + n) / (2 * n) = Y := hY
      rw [hX] at r1
      rw [hY] at r2
      have hidx : wrap64 ((wrap64 ((wrap64 (y0 + (2 * ((i : Int) * (y1 - y0)) + n) / (2 * n))) * 16)) + (wrap64 (x0 + (2 * ((i : Int) * (x1 - x0)) + n) / (2 * n)))) = ((16 * Y + X : Nat) : Int) := by
        rw [hx, hy, wrapNat X (by omega), wrapNat Y (by omega)]
        exact line_idx X Y (by omega) (by omega) _ _ rfl rfl
      refine Ev.step (fun k => by simp only [spec_line.l0, wx, wy]; rfl) ?_
      clear wx wy
      refine evPos (by omega) (evPos (by omega) (evFix e1 (evFix e2 ?_)))
      simp only [hidx]
      clear hidx
      refine evPos (by omega) (evPos (by rw [gl_length]; omega) ?_)
      rw [Int.toNat_natCast, hset _ hP, wrapSucc i (by omega)]
      exact hnext
    · obtain rfl : n = 0 := by omega
      obtain rfl : i = 0 := by omega
      obtain ⟨X, rfl⟩ := Int.eq_ofNat_of_zero_le p0
      obtain ⟨Y, rfl⟩ := Int.eq_ofNat_of_zero_le p2
      have hP : 16 * Y + X = linePix X Y x1 y1 0 := by
        unfold linePix
        rw [hn, lineAt_zero _ _ _ (by omega), lineAt_zero _ _ _ (by omega)]
        rfl
      refine Ev.step (fun k => by simp only [spec_line.l0]; rfl) ?_
      refine evPos (by omega) (evNeg (by omega) ?_)
      rw [line_idx X Y (by omega) (by omega) _ _ rfl rfl]
      refine evPos (by omega) (evPos (by rw [gl_length]; omega) ?_)
      rw [Int.toNat_natCast, hset _ hP, wrapSucc 0 (by omega)]
      exact hnext
theorem spec_LineRegion.ev (x0 y0 x1 y1 : Int) : Ev (fun k => spec_LineRegion.f k x0 y0 x1 y1) (if lineOk x0 y0 x1 y1 then runsL (lineF x0 y0 x1 y1) else []) := by
  have hno : ¬ lineOk x0 y0 x1 y1 → Ev (fun k => spec_LineRegion.j0 k x0 y0 x1 y1 true) (if lineOk x0 y0 x1 y1 then runsL (lineF x0 y0 x1 y1) else []) := fun h => by
    rw [if_neg h]
    exact Ev.step (fun k => by simp only [spec_LineRegion.j0]; rfl) (evPos (by trivial) (evRet rfl))
  unfold spec_LineRegion.f
  refine evFix (onGrid_val x0 y0) (evIf (fun h => ?_) (fun h => ?_))
  · rw [decide_eq_true_eq] at h
    refine evFix (onGrid_val x1 y1) ?_
    by_cases h2 : (0 ≤ x1 ∧ x1 ≤ 15) ∧ (0 ≤ y1 ∧ y1 ≤ 15)
    · have hk : lineOk x0 y0 x1 y1 := ⟨by omega, by omega, by omega, by omega⟩
      rw [decide_eq_true h2, if_pos hk]
      have b1 := absI_bounds x0 x1 hk.1.1 hk.1.2 hk.2.2.1.1 hk.2.2.1.2
      have b2 := absI_bounds y0 y1 hk.2.1.1 hk.2.1.2 hk.2.2.2.1 hk.2.2.2.2
      obtain ⟨q1, q2, q3⟩ := lineN_facts x0 y0 x1 y1
      obtain ⟨n, hn⟩ := Int.eq_ofNat_of_zero_le (show 0 ≤ lineN x0 y0 x1 y1 by omega)
      have e1 : spec_distance.f (wrap64 (x1 - x0)) = some (absI (x1 - x0)) := by
        rw [wrapIn (x := x1 - x0) (by omega) (by omega)]
        exact spec_distance.val _ (by omega) (by omega)
      have e2 : spec_distance.f (wrap64 (y1 - y0)) = some (absI (y1 - y0)) := by
        rw [wrapIn (x := y1 - y0) (by omega) (by omega)]
        exact spec_distance.val _ (by omega) (by omega)
      have hl : Ev (fun k => spec_line.f k (List.replicate 256 false) x0 y0 x1 y1) (gl (lineF x0 y0 x1 y1)) := by
        unfold spec_line.f
        refine evFix e1 (evFix e2 ?_)
        rw [show mx (absI (x1 - x0)) (absI (y1 - y0)) = (n : Int) from hn, gl_false]
        exact spec_line.ev_l0 x0 y0 x1 y1 hk n hn (n + 1) 0 (by omega) rfl
      refine Ev.step (fun k => by simp only [spec_LineRegion.j0]; rfl) ?_
      refine evNeg (by simp) (evPos (by omega) (evBind hl (evBind (spec_runsOf.ev _) (evRet rfl))))
    · rw [decide_eq_false h2]
      exact hno fun hk => h2 (by have := hk.1; have := hk.2.1; have := hk.2.2.1; have := hk.2.2.2; omega)
  · rw [decide_eq_true_eq] at h
    exact hno fun hk => h (by have := hk.1; have := hk.2.1; have := hk.2.2.1; have := hk.2.2.2; omega)
theorem spec_LineRegion.len (x0 y0 x1 y1 : Int) : (if lineOk x0 y0 x1 y1 then runsL (lineF x0 y0 x1 y1) else []).length ≤ 256 := by
  split
  · exact runsL_length _
  · simp
theorem spec_DrawLineRegion.ev (l : List Int) (hw : ∀ x ∈ l, (Lit.int .u8 x).wf = true) : ∃ a b c d, Ev (fun k => spec_DrawLineRegion.f k l) (a, b, c, d) := by
  obtain ⟨s, hb, h⟩ := spec_newReader.ev l hw
  obtain ⟨u, hu, u0, u1⟩ := spec_reader_pick.ev s h 0 17 (by omega) (by omega) (by omega)
  obtain ⟨v, hv, v0, v1⟩ := spec_reader_pick.ev s h (0 + 1) 17 (by omega) (by omega) (by omega)
  obtain ⟨t, ht, t0, t1⟩ := spec_reader_pick.ev s h (0 + 1 + 1) 17 (by omega) (by omega) (by omega)
  obtain ⟨q, hq, _, _⟩ := spec_reader_pick.ev s h (0 + 1 + 1 + 1) 20 (by omega) (by omega) (by omega)
  obtain ⟨r, hr, _, _⟩ := spec_reader_pick.ev s h (0 + 1 + 1 + 1 + 1) 17 (by omega) (by omega) (by omega)
  by_cases e : q = 0
  · exact ⟨-1, v, t, r, by unfold spec_DrawLineRegion.f; exact evFix hb (evBind hu (evBind hv (evBind ht (evBind hq (evPos e (evBind hr (evRet rfl)))))))⟩
  · exact ⟨u, v, t, r, by unfold spec_DrawLineRegion.f; exact evFix hb (evBind hu (evBind hv (evBind ht (evBind hq (evNeg e (evBind hr (evRet rfl)))))))⟩

theorem FnExactLineRegion : laws_FnExactLineRegion.Pure := by
  intro x0 y0 x1 y1 _ _ _ _
  refine Ev.rounds ?_
  have h2 := spec_LineRegion.ev x0 y0 x1 y1
  have h3 : impl_LineRegion.f x0 y0 x1 y1 = some (if lineOk x0 y0 x1 y1 then runsL (lineF x0 y0 x1 y1) else []) := rfl
  have hr := spec_LineRegion.len x0 y0 x1 y1
  generalize (if lineOk x0 y0 x1 y1 then runsL (lineF x0 y0 x1 y1) else []) = R at *
  have heq := laws_eqRunS.refl R (by omega)
  have hmark := laws_markRunS.ev R 1 (by omega) (by omega)
  have hheld := laws_heldRunS.ev R.length 1 (by omega) (by omega)
  unfold laws_FnExactLineRegion.f
  refine evBind h2 (evFix h3 (evBind heq ?_))
  refine evPos rfl (evBind hmark (evBind hheld ?_))
  refine evNeg (by first | omega | (simp only []; omega)) ?_
  refine evPos rfl (evFix h3 (evBind heq ?_))
  refine evPos rfl (evBind hheld ?_)
  refine evNeg (by first | omega | (simp only []; omega)) ?_
  exact evPos rfl (evRet rfl)

end Go.Proofs.Ytifjkllkbciliaa.Pure
