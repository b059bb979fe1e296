/- FnPackSprites answers true for every code: PackSprites gives what its model gives, and where the sprites are valid its boxes have their sizes and are a valid packing. No condition. -/
import Derived.Test.YtbpeonhhlfadcaaPrintHhandSort
import Derived.Test.YtbpeonhhlfadcaaPrintHimplPackSprites
import Derived.Test.YtbpeonhhlfadcaaPrintHspectallFirst
import Derived.Test.YtbpeonhhlfadcaaPrintHx0
import Derived.Test.YtbpeonhhlfadcaaPrintHx1
import Derived.Test.YtbpeonhhlfadcaaPrintLFnPackSprites
import Derived.Test.YtbpeonhhlfadcaaPrintR0x0
import Derived.Test.YtbpeonhhlfadcaaPrintR1x0
import Derived.Test.YtbpeonhhlfadcaaPrintR1x1
import Derived.Test.YtbpeonhhlfadcaaPrintR1x2
import Derived.Test.YtbpeonhhlfadcaaPrintR3x0
namespace Go.Proofs.Ytbpeonhhlfadcaa.Pure
open Go.RowKit Go.Proofs.Ytbpeonhhlfadcaa.Print Go.Proofs.YtbpeonhhlfadcaaW.PrintWords Go.Proofs.YtbpeonhhlfadcaaW.PrintLast Go.Proofs.YtbpeonhhlfadcaaW.PrintMore
set_option linter.unusedVariables false
set_option linter.unusedSimpArgs false
theorem laws_equalBoxes.refl_l0 (a : List S31) (hl : a.length ≤ 9223372036854775806) (d : Nat) : ∀ i, i ≤ a.length → a.length - i = d →
    Ev (fun k => laws_equalBoxes.l0 k a a (i : Int)) true := by
  induction d with
  | zero =>
    intro i hi hd
    exact Ev.step (fun k => by simp only [laws_equalBoxes.l0]; rfl) (evNeg (by omega) (evRet rfl))
  | succ d ih =>
    intro i hi hd
    have hw : wrap64 ((i : Int) + 1) = ((i + 1 : Nat) : Int) := wrapSucc i (by omega)
    have := ih (i + 1) (by omega) (by omega)
    refine Ev.step (f := fun k => laws_equalBoxes.l0 k a a ((i + 1 : Nat) : Int)) (fun k => ?_) this
    simp only [laws_equalBoxes.l0, hw]
    rw [if_pos (by omega), if_pos (by omega), if_pos (by omega)]
    simp
theorem laws_equalBoxes.refl (a : List S31) (hl : a.length ≤ 9223372036854775806) : Ev (fun k => laws_equalBoxes.f k a a) true := by
  unfold laws_equalBoxes.f
  exact evPos rfl (laws_equalBoxes.refl_l0 a hl a.length 0 (by omega) (by omega))

theorem rdN (l : List Int) (k : Nat) (h : k < l.length) : rd l (k : Int) = l[k] := by
  simp [rd, List.getD_eq_getElem?_getD, List.getElem?_eq_getElem h]
/-- A code that a reader reads. -/
def CodeOk (b : List Int) : Prop := b.length ≤ 2000 ∧ ∀ x ∈ b, 0 ≤ x ∧ x ≤ 255
theorem code_rd (b : List Int) (h : CodeOk b) (i : Int) (h0 : 0 ≤ i) (h1 : i < b.length) : 0 ≤ rd b i ∧ rd b i ≤ 255 := by
  obtain ⟨n, rfl⟩ := Int.eq_ofNat_of_zero_le h0
  rw [rdN b n (by omega)]
  exact h.2 _ (List.getElem_mem _)
theorem xor_nonneg (a b : Int) (ha : 0 ≤ a) (ha1 : a < 4611686018427387904) (hb : 0 ≤ b) (hb1 : b < 4611686018427387904) : 0 ≤ Go.bits .xor .i64 a b := by
  obtain ⟨n, rfl⟩ := Int.eq_ofNat_of_zero_le ha
  obtain ⟨m, rfl⟩ := Int.eq_ofNat_of_zero_le hb
  have hx : n ^^^ m < 2 ^ 62 := Nat.xor_lt_two_pow (by omega) (by omega)
  have e : Go.bits .xor .i64 (n : Int) (m : Int) = ((n ^^^ m : Nat) : Int) := by
    have hp : (2 : Nat) ^ IntKind.i64.bits = 18446744073709551616 := by decide
    have ha' : n % 2 ^ IntKind.i64.bits = n := Nat.mod_eq_of_lt (by omega)
    have hb' : m % 2 ^ IntKind.i64.bits = m := Nat.mod_eq_of_lt (by omega)
    simp only [bits, BitVec.ofInt_natCast, BitVec.toNat_xor, BitVec.toNat_ofNat, ha', hb']
    rw [IntKind.wrap_i64]
    omega
  rw [e]
  omega
theorem spec_reader_pick.ev (b : List Int) (h : CodeOk b) (p n : Int) (hp0 : 0 ≤ p) (hp1 : p < 1000000000) (hn : n ≤ 1000000) : ∃ v, Ev (fun k => spec_reader_pick.f k b p n) (v, p + 1) ∧ 0 ≤ v ∧ (v < n ∨ v = 0) := by
  have hw : wrap64 (p + 1) = p + 1 := wrapIn (by omega) (by omega)
  have hw1 : wrap64 (p + 1 - 1) = p := by rw [wrapIn (by omega) (by omega)]; omega
  unfold spec_reader_pick.f
  rw [hw]
  by_cases hn1 : n < 1
  · refine ⟨0, evPos hn1 (Ev.step (fun k => by simp only [spec_reader_pick.j0]; rfl) (evPos (by trivial) (evRet rfl))), by omega, .inr rfl⟩
  by_cases hb : (b.length : Int) = 0
  · refine ⟨0, evNeg hn1 (Ev.step (fun k => by simp only [spec_reader_pick.j0]; rfl) (evPos (by simp [hb]) (evRet rfl))), by omega, .inr rfl⟩
  have hbf : ((b.length : Int) == 0) = false := by simpa using hb
  have hl := h.1
  by_cases hlt : p < (b.length : Int)
  · have hr := code_rd b h p hp0 hlt
    refine ⟨Int.tmod (wrap64 (rd b p)) n, evNeg hn1 (Ev.step (fun k => by simp only [spec_reader_pick.j0, hbf, hw1]; rfl) (evNeg (by simp) (evPos hlt (evPos hp0 (evNeg (by omega) (evRet rfl)))))), ?_, .inl ?_⟩
    · exact Int.tmod_nonneg _ (by rw [wrapIn (by omega) (by omega)]; omega)
    · exact Int.tmod_lt_of_pos _ (by omega)
  · have hm0 : 0 ≤ Int.tmod p (b.length : Int) := Int.tmod_nonneg _ hp0
    have hm1 : Int.tmod p (b.length : Int) < b.length := Int.tmod_lt_of_pos _ (by omega)
    have hq : wrap64 (wrap64 (p * 7) + 3) = p * 7 + 3 := by rw [wrapIn (x := p * 7) (by omega) (by omega), wrapIn (by omega) (by omega)]
    have hk0 : 0 ≤ Int.tmod (p * 7 + 3) (b.length : Int) := Int.tmod_nonneg _ (by omega)
    have hk1 : Int.tmod (p * 7 + 3) (b.length : Int) < b.length := Int.tmod_lt_of_pos _ (by omega)
    have r1 := code_rd b h _ hm0 hm1
    have r2 := code_rd b h _ hk0 hk1
    have hd0 : 0 ≤ Int.tdiv p (b.length : Int) := Int.tdiv_nonneg hp0 (by omega)
    have hd1 : Int.tdiv p (b.length : Int) ≤ p := by
      have := Int.natAbs_tdiv_le_natAbs p (b.length : Int)
      omega
    refine ⟨_, evNeg hn1 (Ev.step (fun k => by simp only [spec_reader_pick.j0, hbf, hw1, hq]; rfl) (evNeg (by simp) (evNeg hlt (evNeg hb (evPos hm0 (evPos hm1 (evPos hk0 (evPos hk1 (evNeg (by omega) (evRet rfl)))))))))), ?_, .inl (Int.tmod_lt_of_pos _ (by omega))⟩
    generalize rd b (Int.tmod p (b.length : Int)) = u at *
    generalize rd b (Int.tmod (p * 7 + 3) (b.length : Int)) = t at *
    generalize Int.tdiv p (b.length : Int) = q at *
    rw [wrapIn (x := u) (by omega) (by omega), wrapIn (x := t) (by omega) (by omega), wrapIn (x := q) (by omega) (by omega), wrapIn (x := u * 131) (by omega) (by omega), wrapIn (x := t * 1117) (by omega) (by omega), wrapIn (x := u * 131 + t * 1117) (by omega) (by omega), wrapIn (x := p * 29) (by omega) (by omega), wrapIn (x := u * 131 + t * 1117 + p * 29) (by omega) (by omega), wrapIn (x := q * 53) (by omega) (by omega), wrapIn (x := u * 131 + t * 1117 + p * 29 + q * 53) (by omega) (by omega)]
    generalize hX : u * 131 + t * 1117 + p * 29 + q * 53 = X
    have hX0 : 0 ≤ X := by omega
    have hX1 : X < 4611686018427387904 := by omega
    have hT0 : 0 ≤ Int.tdiv X 64 := Int.tdiv_nonneg hX0 (by omega)
    have hT1 : Int.tdiv X 64 ≤ X := by
      have := Int.natAbs_tdiv_le_natAbs X 64
      omega
    rw [wrapIn (x := Int.tdiv X 64) (by omega) (by omega)]
    exact Int.tmod_nonneg _ (xor_nonneg _ _ hX0 hX1 hT0 (by omega))
theorem spec_newReader.ev (l : List Int) (hw : ∀ x ∈ l, (Lit.int .u8 x).wf = true) : ∃ b, spec_newReader.f l = some (b, 0) ∧ CodeOk b := by
  have hx : ∀ x ∈ l, 0 ≤ x ∧ x ≤ 255 := fun x hx => by
    have := hw x hx
    have hmin : IntKind.u8.min = 0 := rfl
    have hmax : IntKind.u8.max = 255 := rfl
    simp only [Lit.wf, Bool.and_eq_true, decide_eq_true_eq] at this
    omega
  unfold spec_newReader.f
  by_cases h : (l.length : Int) > 2000
  · rw [if_pos h, if_pos (by omega)]
    exact ⟨_, rfl, by simp; omega, fun x h2 => hx x (List.mem_of_mem_take h2)⟩
  · rw [if_neg h]
    exact ⟨_, rfl, by omega, hx⟩

theorem spec_reader_one.ev (b : List Int) (h : CodeOk b) (p : Int) (hp0 : 0 ≤ p) (hp1 : p < 1000000000) (l : List Int) (hl0 : 0 < l.length) (hl1 : l.length ≤ 1000) : ∃ v, Ev (fun k => spec_reader_one.f k b p l) (v, p + 1) ∧ v ∈ l := by
  obtain ⟨v, hv, h0, h1⟩ := spec_reader_pick.ev b h p (l.length : Int) hp0 hp1 (by omega)
  have hlt : v < l.length := by omega
  refine ⟨rd l v, ?_, ?_⟩
  · unfold spec_reader_one.f
    exact evBind hv (evPos h0 (evPos hlt (evRet rfl)))
  · obtain ⟨n, rfl⟩ := Int.eq_ofNat_of_zero_le h0
    rw [rdN l n (by omega)]
    exact List.getElem_mem _

theorem spec_anySprites.ev_j1 (b : List Int) (h : CodeOk b) (x : List S33) (c : Bool) (p : Int) (h0 : 0 ≤ p) (h1 : p ≤ 1000) (hc : c = true → 0 < x.length) :
    ∃ r q, Ev (fun k => spec_anySprites.j1 k x c b p) (r, q) ∧ r.length = x.length ∧ 0 ≤ q ∧ q ≤ p + 2 := by
  cases c with
  | false => exact ⟨x, p, Ev.step (fun k => by simp only [spec_anySprites.j1]; rfl) (evNeg (by simp) (evRet rfl)), rfl, h0, by omega⟩
  | true =>
    have hx := hc rfl
    obtain ⟨u, hu, _⟩ := spec_reader_one.ev b h p h0 (by omega) [0, 16, 65] (by simp) (by simp)
    obtain ⟨v, hv, _⟩ := spec_reader_one.ev b h (p + 1) (by omega) (by omega) [0, 16, 17] (by simp) (by simp)
    refine ⟨x.set (0 : Int).toNat ⟨u, v⟩, p + 1 + 1, ?_, List.length_set, by omega, by omega⟩
    refine Ev.step (fun k => by simp only [spec_anySprites.j1]; rfl) ?_
    refine evPos (by trivial) (evBind hu (evBind hv ?_))
    have hx0 : (0 : Int) < (x.length : Int) := by omega
    exact evPos hx0 (evRet rfl)
theorem spec_anySprites.ev_l0 (b : List Int) (h : CodeOk b) (n : Nat) : ∀ (x : List S33) (p : Int), 0 ≤ p → p + 2 * n ≤ 900 → x.length + n ≤ 100 →
    ∃ r q, Ev (fun k => spec_anySprites.l0 k x (n : Int) b p) (r, q) ∧ r.length ≤ 100 ∧ 0 ≤ q ∧ q ≤ 1000 := by
  induction n with
  | zero =>
    intro x p h0 h1 h2
    by_cases hx : (x.length : Int) > 0
    · obtain ⟨v, hv, _, _⟩ := spec_reader_pick.ev b h p 20 h0 (by omega) (by omega)
      obtain ⟨r, q, hr, hl, q0, q1⟩ := spec_anySprites.ev_j1 b h x (v == 0) (p + 1) (by omega) (by omega) (fun _ => by omega)
      exact ⟨r, q, Ev.step (fun k => by simp only [spec_anySprites.l0]; rfl) (evNeg (by omega) (evPos hx (evBind hv hr))), by omega, q0, by omega⟩
    · obtain ⟨r, q, hr, hl, q0, q1⟩ := spec_anySprites.ev_j1 b h x false p (by omega) (by omega) (by simp)
      exact ⟨r, q, Ev.step (fun k => by simp only [spec_anySprites.l0]; rfl) (evNeg (by omega) (evNeg hx hr)), by omega, q0, by omega⟩
  | succ n ih =>
    intro x p h0 h1 h2
    obtain ⟨u, hu, _, _⟩ := spec_reader_pick.ev b h p 8 h0 (by omega) (by omega)
    obtain ⟨v, hv, _, _⟩ := spec_reader_pick.ev b h (p + 1) 8 (by omega) (by omega) (by omega)
    obtain ⟨r, q, hr, hl⟩ := ih (x ++ [⟨wrap64 (1 + u), wrap64 (1 + v)⟩]) (p + 1 + 1) (by omega) (by omega) (by simp; omega)
    have hw : wrap64 (((n + 1 : Nat) : Int) - 1) = (n : Int) := by rw [wrapIn (by omega) (by omega)]; omega
    refine ⟨r, q, ?_, hl⟩
    refine Ev.step (fun k => by simp only [spec_anySprites.l0, hw]; rfl) (evPos (by omega) (evBind hu (evBind hv ?_)))
    exact evPos (show x.length < 8796093022208 by omega) hr
theorem spec_DrawPackSprites.ev (l : List Int) (hw : ∀ x ∈ l, (Lit.int .u8 x).wf = true) : ∃ (r : List S33) (wd : Int), Ev (fun k => spec_DrawPackSprites.f k l) (r, wd) ∧ r.length ≤ 100 := by
  obtain ⟨b, hb, h⟩ := spec_newReader.ev l hw
  obtain ⟨n, hn, hm⟩ := spec_reader_one.ev b h 0 (by omega) (by omega) [3, 5, 8, 2, 1, 0, 12, 13] (by simp) (by simp)
  have hn2 : 0 ≤ n ∧ n ≤ 13 := by simp at hm; omega
  obtain ⟨m, rfl⟩ := Int.eq_ofNat_of_zero_le hn2.1
  obtain ⟨r, q, hr, hl, q0, q1⟩ := spec_anySprites.ev_l0 b h m [] (0 + 1) (by omega) (by omega) (by simp; omega)
  obtain ⟨wd, hwd, _⟩ := spec_reader_one.ev b h q q0 (by omega) [10, 16, 8, 20, 64, 65, 0] (by simp) (by simp)
  refine ⟨r, wd, ?_, hl⟩
  have ha : Ev (fun k => spec_anySprites.f k b 0) (r, q) := by
    unfold spec_anySprites.f
    exact evBind hn hr
  unfold spec_DrawPackSprites.f
  exact evFix hb (evBind ha (evBind hwd (evRet rfl)))

theorem hOf_get (l : List S33) (x : Nat) (hx : x < l.length) : hOf l x = (l[x]).f1 := by
  unfold hOf
  rw [rdSize_get l x hx]
theorem atPos_low (h : Nat → Int) (out : List Nat) (i k : Nat) (q : Nat) (h1 : atPos h out i k ≤ q) (h2 : q < k) : h (out.getD q 0) < h i := by
  induction k with
  | zero => omega
  | succ k ih =>
    unfold atPos at h1
    split at h1
    · rename_i hh
      by_cases hq : q = k
      · subst hq; exact hh
      · exact ih h1 (by omega)
    · omega
theorem atPos_high (h : Nat → Int) (out : List Nat) (i k : Nat) (hp : 0 < atPos h out i k) : h i ≤ h (out.getD (atPos h out i k - 1) 0) := by
  induction k with
  | zero => unfold atPos at hp; omega
  | succ k ih =>
    unfold atPos at hp ⊢
    split at hp
    · rename_i hh
      rw [if_pos hh]
      exact ih hp
    · rename_i hh
      rw [if_neg hh, Nat.add_sub_cancel]
      omega
/-- The higher ones first. -/
theorem orderL_sorted (h : Nat → Int) (n : Nat) : (orderL h n).Pairwise (fun a b => h b ≤ h a) := by
  induction n with
  | zero => exact List.Pairwise.nil
  | succ n ih =>
    show (insL h (orderL h n) n).Pairwise _
    generalize orderL h n = out at ih
    unfold insL
    have hle := atPos_le h out n out.length
    have hlow := atPos_low h out n out.length
    have hhigh := atPos_high h out n out.length
    generalize atPos h out n out.length = p at hle hlow hhigh
    rw [← List.take_append_drop p out, List.pairwise_append] at ih
    obtain ⟨ih1, ih2, ih3⟩ := ih
    rw [List.pairwise_append, List.pairwise_cons]
    have hd : ∀ b ∈ out.drop p, h b ≤ h n := fun b hb => by
      obtain ⟨q, hq, rfl⟩ := List.mem_iff_getElem.1 hb
      rw [List.getElem_drop]
      rw [List.length_drop] at hq
      have := hlow (p + q) (by omega) (by omega)
      rw [List.getD_eq_getElem?_getD, List.getElem?_eq_getElem (by omega), Option.getD_some] at this
      omega
    have ht : ∀ a ∈ out.take p, h n ≤ h a := fun a ha => by
      have hp0 : 0 < p := by
        rcases Nat.eq_zero_or_pos p with hz | hz
        · subst hz; simp at ha
        · exact hz
      obtain ⟨q, hq, rfl⟩ := List.mem_iff_getElem.1 ha
      have hql : q < p := by rw [List.length_take] at hq; omega
      have hh := hhigh hp0
      rw [List.getD_eq_getElem?_getD, List.getElem?_eq_getElem (by omega), Option.getD_some] at hh
      by_cases he : q = p - 1
      · subst he
        rw [List.getElem_take]
        exact hh
      · have hpw := List.pairwise_iff_getElem.1 ih1 q (p - 1) hq (by rw [List.length_take]; omega) (by omega)
        rw [List.getElem_take (i := p - 1)] at hpw
        omega
    refine ⟨ih1, ⟨hd, ih2⟩, fun a ha b hb => ?_⟩
    rcases List.mem_cons.1 hb with rfl | hb
    · exact ht a ha
    · exact ih3 a ha b hb
/-- Two boxes have no common pixel. -/
def ApartB (a b : S31) : Prop := a.f0 + a.f2 ≤ b.f0 ∨ b.f0 + b.f2 ≤ a.f0 ∨ a.f1 + a.f3 ≤ b.f1 ∨ b.f1 + b.f3 ≤ a.f1
theorem ApartB.swap {a b : S31} (h : ApartB a b) : ApartB b a := by unfold ApartB at *; omega
def BoxIn (wd ht : Int) (b : S31) : Prop := 0 ≤ b.f0 ∧ b.f0 + b.f2 ≤ wd ∧ 0 ≤ b.f1 ∧ b.f1 + b.f3 ≤ ht
/-- The sprites that are placed, and the shelves, while no later sprite is higher than m. -/
structure Packed (l : List S33) (wd : Int) (P : Nat → Prop) (m : Int) (st : List S31 × List S31 × Int) : Prop where
  size : ∀ i, P i → ∀ (hi : i < l.length) (hb : i < st.1.length), (st.1[i]).f2 = (l[i]).f0 ∧ (st.1[i]).f3 = (l[i]).f1
  box : ∀ i, P i → ∀ hb : i < st.1.length, BoxIn wd st.2.2 st.1[i]
  apart : ∀ i j, P i → P j → i ≠ j → ∀ (hi : i < st.1.length) (hj : j < st.1.length), ApartB st.1[i] st.1[j]
  shelf : ∀ i, P i → ∀ (hi : i < st.1.length) (j : Nat) (hj : j < st.2.1.length), ((st.1[i]).f1 = (st.2.1[j]).f1 ∧ (st.1[i]).f0 + (st.1[i]).f2 ≤ (st.2.1[j]).f2) ∨ (st.1[i]).f1 + (st.1[i]).f3 ≤ (st.2.1[j]).f1 ∨ (st.2.1[j]).f1 + m ≤ (st.1[i]).f1
  room : ∀ (j : Nat) (hj : j < st.2.1.length), 0 ≤ (st.2.1[j]).f1 ∧ (st.2.1[j]).f1 + m ≤ st.2.2
  tops : ∀ (j j' : Nat) (hj : j < st.2.1.length) (hj' : j' < st.2.1.length), j < j' → (st.2.1[j]).f1 + m ≤ (st.2.1[j']).f1
theorem packStep_packed (l : List S33) (wd : Int) (hok : SprOk l wd) (k : Nat) (hk : k < l.length) (st : List S31 × List S31 × Int) (P : Nat → Prop) (m : Int) (i : Nat) (hi : i < l.length) (hinv : PackInv l.length wd k st) (hm : (l[i]).f1 ≤ m) (hnew : ¬ P i) (h : Packed l wd P m st) :
    Packed l wd (fun x => P x ∨ x = i) (l[i]).f1 (packStep l wd st i) := by
  have hsz := hok.2.2.2 _ (List.getElem_mem hi)
  have hrs := rdSize_get l i hi
  obtain ⟨v1, v2, v3, v4, v5⟩ := hinv
  obtain ⟨p1, p2, p3, p4, p5, p6⟩ := h
  obtain ⟨bx, sh, ht⟩ := st
  unfold packStep
  rw [hrs]
  dsimp only at v1 v2 v3 v4 v5 p1 p2 p3 p4 p5 p6 ⊢
  have hli := hi
  generalize hs : l[i] = s at hsz hm ⊢
  obtain ⟨s0, s1⟩ := s
  dsimp only at hsz hm ⊢
  generalize hJ : sh.findIdx (fun x => decide (x.f2 + s0 ≤ wd)) = J
  by_cases hjl : J < sh.length
  · rw [if_pos hjl, rdBox_get sh J hjl]
    have hyes : sh[J].f2 + s0 ≤ wd := by
      have := List.findIdx_getElem (p := fun x => decide (x.f2 + s0 ≤ wd)) (xs := sh) (w := by omega)
      subst hJ
      simpa using this
    have hbj := v2 _ (List.getElem_mem hjl)
    have hrj := p5 J hjl
    have hP : ∀ x, P x → x ≠ i := fun x hx e => hnew (e ▸ hx)
    refine ⟨?_, ?_, ?_, ?_, ?_, ?_⟩ <;> dsimp only
    · intro x hx hxl hb
      rw [List.length_set] at hb
      rw [List.getElem_set]
      split
      · rename_i e; subst e; rw [hs]; exact ⟨rfl, rfl⟩
      · rename_i e; rcases hx with hx | rfl
        · exact p1 x hx hxl hb
        · exact absurd rfl e
    · intro x hx hb
      rw [List.length_set] at hb
      rw [List.getElem_set]
      split
      · unfold BoxIn; dsimp only; omega
      · rename_i e; rcases hx with hx | rfl
        · exact p2 x hx hb
        · exact absurd rfl e
    · have key : ∀ x (hxP : P x) (hb : x < bx.length), ApartB bx[x] ⟨sh[J].f2, sh[J].f1, s0, s1⟩ := fun x hxP hb => by
        have := p4 x hxP hb J hjl
        unfold ApartB
        dsimp only
        omega
      intro x y hx hy hxy hxl hyl
      rw [List.length_set] at hxl hyl
      rw [List.getElem_set, List.getElem_set]
      by_cases ex : i = x
      · rw [if_pos ex, if_neg (by omega)]
        rcases hy with hy | rfl
        · exact (key y hy hyl).swap
        · exact absurd ex.symm hxy
      · rw [if_neg ex]
        rcases hx with hx | rfl
        · by_cases ey : i = y
          · rw [if_pos ey]
            exact key x hx hxl
          · rw [if_neg ey]
            rcases hy with hy | rfl
            · exact p3 x y hx hy hxy hxl hyl
            · exact absurd rfl ey
        · exact absurd rfl ex
    · intro x hx hxl j hj
      rw [List.length_set] at hxl hj
      rw [List.getElem_set, List.getElem_set]
      by_cases ex : i = x
      · rw [if_pos ex]
        by_cases ej : J = j
        · rw [if_pos ej]
          exact .inl ⟨rfl, Int.le_refl _⟩
        · rw [if_neg ej]
          dsimp only
          rcases Nat.lt_or_ge J j with hlt | hge
          · have := p6 J j hjl hj hlt
            omega
          · have := p6 j J hj hjl (by omega)
            omega
      · rw [if_neg ex]
        rcases hx with hx | rfl
        · have hp4 := p4 x hx hxl j hj
          by_cases ej : J = j
          · rw [if_pos ej]
            subst ej
            dsimp only
            omega
          · rw [if_neg ej]
            omega
        · exact absurd rfl ex
    · intro j hj
      rw [List.length_set] at hj
      rw [List.getElem_set]
      have := p5 j hj
      split
      · rename_i e; subst e; dsimp only; omega
      · omega
    · intro j j' hj hj' hlt
      rw [List.length_set] at hj hj'
      rw [List.getElem_set, List.getElem_set]
      have := p6 j j' hj hj' hlt
      by_cases e1 : J = j
      · rw [if_pos e1, if_neg (by omega)]
        subst e1
        dsimp only
        omega
      · rw [if_neg e1]
        by_cases e2 : J = j'
        · rw [if_pos e2]
          subst e2
          dsimp only
          omega
        · rw [if_neg e2]
          omega
  · rw [if_neg hjl]
    refine ⟨?_, ?_, ?_, ?_, ?_, ?_⟩ <;> dsimp only
    · intro x hx hxl hb
      rw [List.length_set] at hb
      rw [List.getElem_set]
      split
      · rename_i e; subst e; rw [hs]; exact ⟨rfl, rfl⟩
      · rename_i e; rcases hx with hx | rfl
        · exact p1 x hx hxl hb
        · exact absurd rfl e
    · intro x hx hb
      rw [List.length_set] at hb
      rw [List.getElem_set]
      split
      · unfold BoxIn; dsimp only; omega
      · rename_i e; rcases hx with hx | rfl
        · have := p2 x hx hb
          unfold BoxIn at this ⊢
          omega
        · exact absurd rfl e
    · have key : ∀ x (hxP : P x) (hb : x < bx.length), ApartB bx[x] ⟨0, ht, s0, s1⟩ := fun x hxP hb => by
        have := p2 x hxP hb
        unfold BoxIn at this
        unfold ApartB
        dsimp only
        omega
      intro x y hx hy hxy hxl hyl
      rw [List.length_set] at hxl hyl
      rw [List.getElem_set, List.getElem_set]
      by_cases ex : i = x
      · rw [if_pos ex, if_neg (by omega)]
        rcases hy with hy | rfl
        · exact (key y hy hyl).swap
        · exact absurd ex.symm hxy
      · rw [if_neg ex]
        rcases hx with hx | rfl
        · by_cases ey : i = y
          · rw [if_pos ey]
            exact key x hx hxl
          · rw [if_neg ey]
            rcases hy with hy | rfl
            · exact p3 x y hx hy hxy hxl hyl
            · exact absurd rfl ey
        · exact absurd rfl ex
    · intro x hx hxl j hj
      rw [List.length_set] at hxl
      rw [List.length_append, List.length_singleton] at hj
      rw [List.getElem_set]
      by_cases ej : j < sh.length
      · rw [List.getElem_append_left ej]
        have hp5 := p5 j ej
        by_cases ex : i = x
        · rw [if_pos ex]
          dsimp only
          omega
        · rw [if_neg ex]
          rcases hx with hx | rfl
          · have := p4 x hx hxl j ej
            omega
          · exact absurd rfl ex
      · rw [List.getElem_append_right (by omega)]
        simp only [List.getElem_singleton]
        by_cases ex : i = x
        · rw [if_pos ex]
          dsimp only
          omega
        · rw [if_neg ex]
          rcases hx with hx | rfl
          · have := p2 x hx hxl
            unfold BoxIn at this
            omega
          · exact absurd rfl ex
    · intro j hj
      rw [List.length_append, List.length_singleton] at hj
      by_cases ej : j < sh.length
      · rw [List.getElem_append_left ej]
        have := p5 j ej
        omega
      · rw [List.getElem_append_right (by omega)]
        simp only [List.getElem_singleton]
        omega
    · intro j j' hj hj' hlt
      rw [List.length_append, List.length_singleton] at hj hj'
      rw [List.getElem_append_left (show j < sh.length by omega)]
      by_cases ej : j' < sh.length
      · rw [List.getElem_append_left ej]
        have := p6 j j' (by omega) ej hlt
        omega
      · rw [List.getElem_append_right (by omega)]
        simp only [List.getElem_singleton]
        have := p5 j (by omega)
        omega
theorem packTo_packed (l : List S33) (wd : Int) (hok : SprOk l wd) (k : Nat) (hk : k ≤ l.length) :
    ∃ m : Int, (∀ x ∈ (orderL (hOf l) l.length).drop k, hOf l x ≤ m) ∧ Packed l wd (fun x => x ∈ (orderL (hOf l) l.length).take k) m (packTo l wd k) := by
  have hol := orderL_length (hOf l) l.length
  induction k with
  | zero =>
    refine ⟨16, fun x hx => ?_, ?_⟩
    · have hxl := orderL_lt _ _ _ (List.mem_of_mem_drop hx)
      have := hok.2.2.2 _ (List.getElem_mem hxl)
      rw [hOf_get l x hxl]
      omega
    · rw [packTo_zero]
      refine ⟨fun i hi => ?_, fun i hi => ?_, fun i j hi => ?_, fun i hi => ?_, fun j hj => ?_, fun j j' hj => ?_⟩
      · simp at hi
      · simp at hi
      · simp at hi
      · simp at hi
      · simp at hj
      · simp at hj
  | succ k ih =>
    obtain ⟨m, hm, hp⟩ := ih (by omega)
    have hko : k < (orderL (hOf l) l.length).length := by omega
    have hnd : (orderL (hOf l) l.length).Nodup := (orderL_perm (hOf l) l.length).nodup_iff.2 List.nodup_range
    have hsorted := orderL_sorted (hOf l) l.length
    have hil : (orderL (hOf l) l.length)[k] < l.length := orderL_lt _ _ _ (List.getElem_mem hko)
    have hdk := List.drop_eq_getElem_cons hko
    have hmk := hm _ (by rw [hdk]; exact List.mem_cons_self)
    rw [packTo_succ l wd k hko]
    have hhi : hOf l (orderL (hOf l) l.length)[k] = (l[(orderL (hOf l) l.length)[k]]).f1 := hOf_get l _ hil
    have hnew : ¬ ((orderL (hOf l) l.length)[k] ∈ (orderL (hOf l) l.length).take k) := fun hh => by
      obtain ⟨q, hq, he⟩ := List.mem_iff_getElem.1 hh
      rw [List.getElem_take] at he
      rw [List.length_take] at hq
      have := (List.getElem_inj hnd).1 he
      omega
    have hst := packStep_packed l wd hok k (by omega) (packTo l wd k) _ m _ hil (packTo_inv l wd hok k (by omega)) (by rw [← hhi]; exact hmk) hnew hp
    refine ⟨(l[(orderL (hOf l) l.length)[k]]).f1, fun x hx => ?_, ?_⟩
    · rw [← hhi]
      obtain ⟨q, hq, rfl⟩ := List.mem_iff_getElem.1 hx
      rw [List.getElem_drop]
      rw [List.length_drop] at hq
      exact List.pairwise_iff_getElem.1 hsorted k (k + 1 + q) hko (by omega) (by omega)
    · have he : (fun x => x ∈ (orderL (hOf l) l.length).take (k + 1)) = (fun x => x ∈ (orderL (hOf l) l.length).take k ∨ x = (orderL (hOf l) l.length)[k]) := by
        funext x
        rw [List.take_succ_eq_append_getElem hko, List.mem_append, List.mem_singleton]
      rw [he]
      exact hst
/-- The boxes of all sprites. -/
theorem packTo_valid (l : List S33) (wd : Int) (hok : SprOk l wd) :
    (packTo l wd l.length).1.length = l.length ∧ 0 ≤ (packTo l wd l.length).2.2 ∧ (packTo l wd l.length).2.2 ≤ 192 ∧
      (∀ i (hi : i < l.length) (hb : i < (packTo l wd l.length).1.length), ((packTo l wd l.length).1[i]).f2 = (l[i]).f0 ∧ ((packTo l wd l.length).1[i]).f3 = (l[i]).f1 ∧ BoxIn wd (packTo l wd l.length).2.2 (packTo l wd l.length).1[i]) ∧
      (∀ i j (hi : i < (packTo l wd l.length).1.length) (hj : j < (packTo l wd l.length).1.length), i ≠ j → ApartB (packTo l wd l.length).1[i] (packTo l wd l.length).1[j]) := by
  obtain ⟨v1, v2, v3, v4, v5⟩ := packTo_inv l wd hok l.length (Nat.le_refl _)
  obtain ⟨m, hm, hp⟩ := packTo_packed l wd hok l.length (Nat.le_refl _)
  have hall : ∀ i, i < l.length → i ∈ (orderL (hOf l) l.length).take l.length := fun i hi => by
    rw [List.take_of_length_le (by rw [orderL_length]; exact Nat.le_refl _)]
    exact (orderL_perm (hOf l) l.length).mem_iff.2 (List.mem_range.2 hi)
  have hn := hok.1
  refine ⟨v1, v3, by omega, fun i hi hb => ?_, fun i j hi hj hne => hp.apart i j (hall i (by omega)) (hall j (by omega)) hne hi hj⟩
  have h := hp.size i (hall i hi) hi hb
  exact ⟨h.1, h.2, hp.box i (hall i hi) hb⟩

theorem inRange_val (a lo hi : Int) : spec_inRange.f a lo hi = some (decide (lo ≤ a ∧ a ≤ hi)) := by
  unfold spec_inRange.f
  split
  · rename_i h; simp [h]
  · rename_i h; simp [h]

theorem spec_validSprites.ev_l0 (l : List S33) (wd : Int) (hl : l.length ≤ 9223372036854775806) (d : Nat) : ∀ i, i ≤ l.length → l.length - i = d → (∀ s ∈ l.take i, 1 ≤ s.f0 ∧ s.f0 ≤ wd ∧ 1 ≤ s.f1 ∧ s.f1 ≤ 16) →
    Ev (fun k => spec_validSprites.l0 k l wd (i : Int)) (decide (SprOk l wd)) := by
  induction d with
  | zero =>
    intro i hi hd hp
    rw [List.take_of_length_le (by omega)] at hp
    refine Ev.step (fun k => by simp only [spec_validSprites.l0, inRange_val]; rfl) (evNeg (by omega) ?_)
    refine evFix rfl ?_
    by_cases h : 1 ≤ wd ∧ wd ≤ 64
    · refine evPos (by simpa using h) (evRet ?_)
      refine decide_eq_decide.2 ?_
      unfold SprOk
      exact ⟨fun hh => ⟨by omega, h.1, h.2, hp⟩, fun hh => by have := hh.1; omega⟩
    · refine evNeg (by simpa using h) (evRet ?_)
      refine (decide_eq_false ?_).symm
      exact fun hh => h ⟨hh.2.1, hh.2.2.1⟩
  | succ d ih =>
    intro i hi hd hp
    have hlt : i < l.length := by omega
    have hr := rdSize_get l i hlt
    refine Ev.step (fun k => by simp only [spec_validSprites.l0, inRange_val, hr, wrapSucc i (by omega)]; rfl) (evPos (by omega) (evPos (by omega) (evFix rfl ?_)))
    by_cases h0 : 1 ≤ l[i].f0 ∧ l[i].f0 ≤ wd
    · refine evPos (by simpa using h0) (evFix rfl ?_)
      by_cases h1 : 1 ≤ l[i].f1 ∧ l[i].f1 ≤ 16
      · refine evPos (by simpa using h1) (ih (i + 1) (by omega) (by omega) fun s hs => ?_)
        rw [List.take_succ_eq_append_getElem hlt, List.mem_append, List.mem_singleton] at hs
        rcases hs with hs | rfl
        · exact hp s hs
        · exact ⟨h0.1, h0.2, h1.1, h1.2⟩
      · refine evNeg (by simpa using h1) (evRet ?_)
        refine (decide_eq_false ?_).symm
        exact fun hh => h1 (hh.2.2.2 _ (List.getElem_mem hlt)).2.2
    · refine evNeg (by simpa using h0) (evRet ?_)
      refine (decide_eq_false ?_).symm
      exact fun hh => h0 ⟨(hh.2.2.2 _ (List.getElem_mem hlt)).1, (hh.2.2.2 _ (List.getElem_mem hlt)).2.1⟩
theorem spec_validSprites.ev (l : List S33) (wd : Int) (hl : l.length ≤ 9223372036854775806) : Ev (fun k => spec_validSprites.f k l wd) (decide (SprOk l wd)) := by
  unfold spec_validSprites.f
  exact spec_validSprites.ev_l0 l wd hl l.length 0 (by omega) (by omega) (by simp)
/-- The tops and the ends of shelves. -/
def topsOf (sh : List S31) : List Int := sh.map fun x => x.f1
def endsOf (sh : List S31) : List Int := sh.map fun x => x.f2
theorem topsOf_rd (sh : List S31) (j : Nat) (h : j < sh.length) : rd (topsOf sh) (j : Int) = sh[j].f1 := by simp [rd, topsOf, List.getD_eq_getElem?_getD, h]
theorem endsOf_rd (sh : List S31) (j : Nat) (h : j < sh.length) : rd (endsOf sh) (j : Int) = sh[j].f2 := by simp [rd, endsOf, List.getD_eq_getElem?_getD, h]
/-- The first shelf with room: the walk from shelf j on. -/
theorem spec_PackSprites.ev_l1 (l : List S33) (wd : Int) (x6 : List S31) (sh : List S31) (ht : Int) (o : List Int) (i : Int) (s0 s1 : Int) (J : Nat) (hJ : sh.findIdx (fun x => decide (x.f2 + s0 ≤ wd)) = J) (hwd : wd ≤ 64) (hs : 1 ≤ s0 ∧ s0 ≤ 64) (hb : ∀ x ∈ sh, 0 ≤ x.f2 ∧ x.f2 ≤ wd) (hsl : sh.length ≤ 12) (r : List S31 × Int)
    (h : Ev (fun k => spec_PackSprites.l1 k l wd x6 (topsOf sh) (endsOf sh) ht o i (J : Int) s0 s1) r) (d : Nat) : ∀ j, j ≤ J → J - j = d → Ev (fun k => spec_PackSprites.l1 k l wd x6 (topsOf sh) (endsOf sh) ht o i (j : Int) s0 s1) r := by
  have hJl : J ≤ sh.length := by rw [← hJ]; exact List.findIdx_le_length
  have hel : (endsOf sh).length = sh.length := List.length_map _
  induction d with
  | zero =>
    intro j hj hd
    obtain rfl : j = J := by omega
    exact h
  | succ d ih =>
    intro j hj hd
    have hlt : j < sh.length := by omega
    have hbj := hb _ (List.getElem_mem hlt)
    have hno : ¬ (sh[j].f2 + s0 ≤ wd) := by
      have := List.not_of_lt_findIdx (p := fun x => decide (x.f2 + s0 ≤ wd)) (xs := sh) (i := j) (by omega)
      simpa using this
    have hw : wrap64 (sh[j].f2 + s0) = sh[j].f2 + s0 := wrapIn (by omega) (by omega)
    refine Ev.step (fun k => by simp only [spec_PackSprites.l1, endsOf_rd sh j hlt, hw, wrapSucc j (by omega)]; rfl) (evPos (by omega) (evPos (by omega) (evPos (by omega) ?_)))
    exact ih (j + 1) (by omega) (by omega)
theorem topsOf_set (sh : List S31) (j : Nat) (h : j < sh.length) (b : S31) (hb : b.f1 = sh[j].f1) : topsOf (sh.set j b) = topsOf sh := by
  unfold topsOf
  rw [List.map_set, hb]
  refine List.ext_getElem (by simp) fun q h1 h2 => ?_
  rw [List.getElem_set]
  split
  · rename_i h; subst h; simp
  · rfl
theorem endsOf_set (sh : List S31) (j : Nat) (b : S31) : endsOf (sh.set j b) = (endsOf sh).set j b.f2 := by
  unfold endsOf
  rw [List.map_set]
theorem spec_PackSprites.ev_l0 (l : List S33) (wd : Int) (hok : SprOk l wd) (d : Nat) : ∀ k, k ≤ l.length → l.length - k = d →
    Ev (fun q => spec_PackSprites.l0 q l wd (packTo l wd k).1 (topsOf (packTo l wd k).2.1) (endsOf (packTo l wd k).2.1) (packTo l wd k).2.2 (intsN (orderL (hOf l) l.length)) (k : Int)) ((packTo l wd l.length).1, (packTo l wd l.length).2.2) := by
  have hol := orderL_length (hOf l) l.length
  have hil : (intsN (orderL (hOf l) l.length)).length = l.length := by rw [intsN_length, hol]
  have hn := hok.1
  induction d with
  | zero =>
    intro k hk hd
    obtain rfl : k = l.length := by omega
    exact Ev.step (fun q => by simp only [spec_PackSprites.l0]; rfl) (evNeg (by omega) (evRet rfl))
  | succ d ih =>
    intro k hk hd
    have hlt : k < l.length := by omega
    have hko : k < (orderL (hOf l) l.length).length := by omega
    have hnext := ih (k + 1) (by omega) (by omega)
    have hps := packTo_succ l wd k hko
    have hil2 : (orderL (hOf l) l.length)[k] < l.length := orderL_lt _ _ _ (List.getElem_mem hko)
    have hrd := intsN_rd (orderL (hOf l) l.length) k hko
    rw [List.getD_eq_getElem?_getD, List.getElem?_eq_getElem hko, Option.getD_some] at hrd
    have hinv := packTo_inv l wd hok k hk
    rw [hps] at hnext
    generalize (orderL (hOf l) l.length)[k] = i at hnext hil2 hrd
    generalize intsN (orderL (hOf l) l.length) = o at hnext hil hrd ⊢
    generalize hst : packTo l wd k = st at hnext hinv ⊢
    obtain ⟨bx, sh, ht⟩ := st
    obtain ⟨v1, v2, v3, v4, v5⟩ := hinv
    dsimp only at v1 v2 v3 v4 v5 hnext ⊢
    have hsz := hok.2.2.2 _ (List.getElem_mem hil2)
    have hrs := rdSize_get l i hil2
    have hwd := hok.2.2.1
    unfold packStep at hnext
    rw [hrs] at hnext
    generalize l[i] = s at hsz hrs hnext
    obtain ⟨s0, s1⟩ := s
    dsimp only at hsz hnext
    have htl : (topsOf sh).length = sh.length := List.length_map _
    have hel : (endsOf sh).length = sh.length := List.length_map _
    generalize hJ : sh.findIdx (fun x => decide (x.f2 + s0 ≤ wd)) = J at hnext
    refine Ev.step (fun q => by simp only [spec_PackSprites.l0, hrd, hrs]; rfl) (evPos (by omega) (evPos (by omega) (evPos (by omega) (evPos (by omega) ?_))))
    refine spec_PackSprites.ev_l1 l wd bx sh ht o (k : Int) s0 s1 J hJ hwd (by omega) (fun x hx => ⟨(v2 x hx).1, (v2 x hx).2.1⟩) (by omega) _ ?_ J 0 (by omega) (by omega)
    by_cases hjl : J < sh.length
    · rw [if_pos hjl, rdBox_get sh J hjl] at hnext
      dsimp only at hnext
      have hbj := v2 _ (List.getElem_mem hjl)
      have hyes : sh[J].f2 + s0 ≤ wd := by
        have := List.findIdx_getElem (p := fun x => decide (x.f2 + s0 ≤ wd)) (xs := sh) (w := by omega)
        subst hJ
        simpa using this
      have hw : wrap64 (sh[J].f2 + s0) = sh[J].f2 + s0 := wrapIn (by omega) (by omega)
      rw [topsOf_set sh J hjl ⟨sh[J].f0, sh[J].f1, sh[J].f2 + s0, sh[J].f3⟩ rfl, endsOf_set] at hnext
      dsimp only at hnext
      refine Ev.step (fun q => by simp only [spec_PackSprites.l1, endsOf_rd sh J hjl, topsOf_rd sh J hjl, hw, hrd, Int.toNat_natCast, wrapSucc k (by omega)]; rfl) (evPos (by omega) (evPos (by omega) (evNeg (by omega) (evNeg (by omega) ?_))))
      exact evPos (by omega) (evPos (by omega) (evPos (by omega) (evPos (by omega) (evPos (by omega) hnext))))
    · have hJl : J = sh.length := by
        have : J ≤ sh.length := by rw [← hJ]; exact List.findIdx_le_length
        omega
      rw [if_neg hjl] at hnext
      dsimp only at hnext
      have e1 : topsOf (sh ++ [⟨0, ht, s0, 0⟩]) = topsOf sh ++ [ht] := by unfold topsOf; rw [List.map_append]; rfl
      have e2 : endsOf (sh ++ [⟨0, ht, s0, 0⟩]) = (endsOf sh ++ [0]).set J s0 := by
        unfold endsOf
        rw [List.map_append, List.set_append_right _ _ (by simp; omega), List.length_map, hJl, Nat.sub_self]
        rfl
      rw [e1, e2] at hnext
      have r1 : rd (endsOf sh ++ [0]) (J : Int) = 0 := by simp [rd, List.getD_eq_getElem?_getD, List.getElem?_append_right, hel, hJl]
      have r2 : rd (topsOf sh ++ [ht]) (J : Int) = ht := by simp [rd, List.getD_eq_getElem?_getD, List.getElem?_append_right, htl, hJl]
      have hw0 : wrap64 (0 + s0) = s0 := by rw [wrapIn (by omega) (by omega)]; omega
      have hw1 : wrap64 (ht + s1) = ht + s1 := wrapIn (by omega) (by omega)
      refine Ev.step (fun q => by simp only [spec_PackSprites.l1, hrd]; rfl) (evNeg (by omega) (evPos (by omega) (evPos (by omega) (evFix rfl (evPos (by omega) (evFix rfl ?_))))))
      refine evPos (by omega) (evPos (by omega) (evPos (by omega) (evPos (by rw [List.length_append, List.length_singleton]; omega) (evPos (by rw [List.length_append, List.length_singleton]; omega) (evPos (by omega) (evPos (by omega) ?_))))))
      simp only [r1, r2, hw0, hw1, Int.toNat_natCast, wrapSucc k (show k < 9223372036854775807 by omega)]
      exact hnext
theorem spec_PackSprites.ev (l : List S33) (wd : Int) (hl : l.length ≤ 9223372036854775806) : Ev (fun k => spec_PackSprites.f k l wd) (if SprOk l wd then ((packTo l wd l.length).1, (packTo l wd l.length).2.2) else ([], -1)) := by
  unfold spec_PackSprites.f
  refine evBind (spec_validSprites.ev l wd hl) ?_
  by_cases hok : SprOk l wd
  · have hn := hok.1
    have ht : spec_tallFirst.f l = some (intsN (orderL (hOf l) l.length)) := by unfold spec_tallFirst.f; rw [if_pos hn]
    rw [if_pos hok]
    refine evPos (by simpa using hok) (evPos (by omega) (evPos (by omega) (evFix ht ?_)))
    have h := spec_PackSprites.ev_l0 l wd hok l.length 0 (by omega) (by omega)
    rw [packTo_zero] at h
    simpa [topsOf, endsOf] using h
  · rw [if_neg hok]
    exact evNeg (by simpa using hok) (evRet rfl)

theorem impl_ValidPacking.ev_l1 (L : List S31) (wd ht : Int) (i : Nat) (hi : i < L.length) (r : Bool) (hwd : 0 ≤ wd ∧ wd ≤ 64) (hht : 0 ≤ ht ∧ ht ≤ 192)
    (hin : ∀ j (hj : j < L.length), BoxIn wd ht L[j] ∧ 1 ≤ (L[j]).f2 ∧ 1 ≤ (L[j]).f3) (hap : ∀ a b (ha : a < L.length) (hb : b < L.length), a ≠ b → ApartB L[a] L[b]) (hl : L.length ≤ 12)
    (h : Ev (fun k => impl_ValidPacking.l0 k L wd ht L (L.length : Int) ((i + 1 : Nat) : Int)) r) (d : Nat) : ∀ j, j ≤ i → i - j = d →
    Ev (fun k => impl_ValidPacking.l1 k L wd ht L (L.length : Int) (i : Int) (L.take i) (i : Int) (j : Int) (L[i]).f0 (L[i]).f1 (L[i]).f2 (L[i]).f3) r := by
  have htl : (L.take i).length = i := by rw [List.length_take]; omega
  induction d with
  | zero =>
    intro j hj hd
    refine Ev.step (fun k => by simp only [impl_ValidPacking.l1, wrapSucc i (by omega)]; rfl) (evNeg (by omega) h)
  | succ d ih =>
    intro j hj hd
    have hlt : j < i := by omega
    have hnext := ih (j + 1) (by omega) (by omega)
    have hr : rd_T31 (L.take i) (j : Int) = L[j] := by
      rw [rdBox_get _ j (by omega), List.getElem_take]
    have ha := hap i j hi (by omega) (by omega)
    obtain ⟨hi1, hi2, hi3⟩ := hin i hi
    obtain ⟨hj1, hj2, hj3⟩ := hin j (by omega)
    unfold ApartB at ha
    unfold BoxIn at hi1 hj1
    have w0 : wrap64 ((L[j]).f0 + (L[j]).f2) = (L[j]).f0 + (L[j]).f2 := wrapIn (by omega) (by omega)
    have w1 : wrap64 ((L[i]).f0 + (L[i]).f2) = (L[i]).f0 + (L[i]).f2 := wrapIn (by omega) (by omega)
    have w2 : wrap64 ((L[j]).f1 + (L[j]).f3) = (L[j]).f1 + (L[j]).f3 := wrapIn (by omega) (by omega)
    have w3 : wrap64 ((L[i]).f1 + (L[i]).f3) = (L[i]).f1 + (L[i]).f3 := wrapIn (by omega) (by omega)
    refine Ev.step (fun k => by simp only [impl_ValidPacking.l1, hr, w0, w1, w2, w3, wrapSucc j (by omega)]; rfl) (evPos (by omega) (evPos (by omega) (evPos (by omega) ?_)))
    refine evIf (fun c0 => evIf (fun c1 => evIf (fun c2 => evIf (fun c3 => ?_) (fun _ => hnext)) (fun _ => hnext)) (fun _ => hnext)) (fun _ => hnext)
    omega
theorem impl_ValidPacking.ev_l0 (L : List S31) (wd ht : Int) (hwd : 0 ≤ wd ∧ wd ≤ 64) (hht : 0 ≤ ht ∧ ht ≤ 192)
    (hin : ∀ j (hj : j < L.length), BoxIn wd ht L[j] ∧ 1 ≤ (L[j]).f2 ∧ 1 ≤ (L[j]).f3) (hap : ∀ a b (ha : a < L.length) (hb : b < L.length), a ≠ b → ApartB L[a] L[b]) (hl : L.length ≤ 12) (d : Nat) : ∀ i, i ≤ L.length → L.length - i = d →
    Ev (fun k => impl_ValidPacking.l0 k L wd ht L (L.length : Int) (i : Int)) true := by
  induction d with
  | zero =>
    intro i hi hd
    exact Ev.step (fun k => by simp only [impl_ValidPacking.l0]; rfl) (evNeg (by omega) (evRet rfl))
  | succ d ih =>
    intro i hi hd
    have hlt : i < L.length := by omega
    have hnext := ih (i + 1) (by omega) (by omega)
    have hr := rdBox_get L i hlt
    obtain ⟨hi1, hi2, hi3⟩ := hin i hlt
    unfold BoxIn at hi1
    have w0 : wrap64 (wd - (L[i]).f0) = wd - (L[i]).f0 := wrapIn (by omega) (by omega)
    have w1 : wrap64 (ht - (L[i]).f1) = ht - (L[i]).f1 := wrapIn (by omega) (by omega)
    have hd1 : decide ((L[i]).f3 > ht - (L[i]).f1) = false := decide_eq_false (by omega)
    have hlp := impl_ValidPacking.ev_l1 L wd ht i hlt true hwd hht hin hap hl hnext i 0 (by omega) (by omega)
    have htl : ((L.take i).length : Int) = (i : Int) := by rw [List.length_take]; omega
    refine Ev.step (fun k => by simp only [impl_ValidPacking.l0, hr, w0, w1, hd1]; rfl) (evPos (by omega) (evPos (by omega) (evPos (by omega) (evNeg (by omega) (evNeg (by omega) (evNeg (by omega) (evNeg (by omega) (evNeg (by omega) (evNeg (by omega) (evNeg (by omega) ?_))))))))))
    refine Ev.step (fun k => by simp only [impl_ValidPacking.j2, Int.toNat_natCast]; rfl) (evNeg (by simp) (evPos (by omega) (evPos (by omega) (evFix rfl ?_))))
    simp only [htl]
    exact hlp
theorem impl_ValidPacking.ev (L : List S31) (wd ht : Int) (hwd : 1 ≤ wd ∧ wd ≤ 64) (hht : 0 ≤ ht ∧ ht ≤ 192)
    (hin : ∀ j (hj : j < L.length), BoxIn wd ht L[j] ∧ 1 ≤ (L[j]).f2 ∧ 1 ≤ (L[j]).f3) (hap : ∀ a b (ha : a < L.length) (hb : b < L.length), a ≠ b → ApartB L[a] L[b]) (hl : L.length ≤ 12) :
    Ev (fun k => impl_ValidPacking.f k L wd ht) true := by
  have h := impl_ValidPacking.ev_l0 L wd ht (by omega) hht hin hap hl L.length 0 (by omega) (by omega)
  have hd : decide (ht > 192) = false := decide_eq_false (by omega)
  unfold impl_ValidPacking.f
  refine evNeg (by omega) (evNeg (by omega) (evNeg (by omega) (evNeg (by omega) ?_)))
  simp only [hd]
  exact Ev.step (fun k => by simp only [impl_ValidPacking.j0]; rfl) (evNeg (by simp) h)

theorem pack_yes (l : List S33) (wd : Int) (hok : SprOk l wd) (d : Nat) : ∀ i, i ≤ l.length → l.length - i = d →
    Ev (fun k => laws_FnPackSprites.l0 k l wd (packTo l wd l.length).1 (packTo l wd l.length).2.2 (i : Int)) true := by
  obtain ⟨p1, p2, p3, p4, p5⟩ := packTo_valid l wd hok
  generalize packTo l wd l.length = st at p1 p2 p3 p4 p5
  obtain ⟨bx, sh, ht⟩ := st
  dsimp only at p1 p2 p3 p4 p5 ⊢
  have hn := hok.1
  induction d with
  | zero =>
    intro i hi hd
    have hv := impl_ValidPacking.ev bx wd ht ⟨hok.2.1, hok.2.2.1⟩ ⟨p2, p3⟩ (fun j hj => by
      have hjl : j < l.length := by omega
      have h := p4 j hjl hj
      have hs := hok.2.2.2 _ (List.getElem_mem hjl)
      exact ⟨h.2.2, by omega, by omega⟩) p5 (by omega)
    refine Ev.step (fun k => by simp only [laws_FnPackSprites.l0]; rfl) (evNeg (by omega) (evBind hv ?_))
    refine evPos (by trivial) (evRet ?_)
    rw [p1]
    simp
  | succ d ih =>
    intro i hi hd
    have hlt : i < l.length := by omega
    have hb : i < bx.length := by omega
    have h := p4 i hlt hb
    have r1 := rdBox_get bx i hb
    have r2 := rdSize_get l i hlt
    refine Ev.step (fun k => by simp only [laws_FnPackSprites.l0, r1, r2, wrapSucc i (by omega)]; rfl) (evPos (by omega) (evPos (by omega) (evPos (by omega) (evPos (by exact h.1) (evPos (by exact h.2.1) ?_)))))
    exact ih (i + 1) (by omega) (by omega)
theorem FnPackSprites : laws_FnPackSprites.Pure := by
  intro c _ _ hw
  refine Ev.rounds ?_
  obtain ⟨l, wd, hr, hl⟩ := spec_DrawPackSprites.ev c hw
  have hs := spec_PackSprites.ev l wd (by omega)
  have hi : impl_PackSprites.f l wd = some (if SprOk l wd then ((packTo l wd l.length).1, (packTo l wd l.length).2.2) else ([], -1)) := by
    unfold impl_PackSprites.f
    rw [if_pos (by omega)]
  have hlen : (if SprOk l wd then ((packTo l wd l.length).1, (packTo l wd l.length).2.2) else (([] : List S31), (-1 : Int))).1.length ≤ 9223372036854775806 := by
    split
    · rename_i hok
      have := (packTo_valid l wd hok).1
      dsimp only
      omega
    · simp
  have heq := laws_equalBoxes.refl _ hlen
  unfold laws_FnPackSprites.f
  refine evIf (fun _ => evRet rfl) (fun _ => evBind hr (evFix hi (evBind hs (evBind heq (evPos (by rfl) (evPos (by rfl) ?_))))))
  by_cases hok : SprOk l wd
  · simp only [if_pos hok]
    have h0 := (packTo_valid l wd hok).2.1
    have hd : decide ((packTo l wd l.length).2.2 < 0) = false := decide_eq_false (by omega)
    simp only [hd]
    exact Ev.step (fun k => by simp only [laws_FnPackSprites.j0]; rfl) (evNeg (by simp) (pack_yes l wd hok l.length 0 (by omega) (by omega)))
  · simp only [if_neg hok] at heq ⊢
    refine Ev.step (fun k => by simp only [laws_FnPackSprites.j0]; rfl) ?_
    refine evPos (by trivial) (evBind heq ?_)
    refine evPos (by trivial) (evRet ?_)
    rfl

end Go.Proofs.Ytbpeonhhlfadcaa.Pure
