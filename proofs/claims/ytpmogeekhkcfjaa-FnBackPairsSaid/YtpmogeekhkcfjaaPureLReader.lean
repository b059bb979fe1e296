/- A part of this work's pure proofs. -/
import Derived.Test.YtpmogeekhkcfjaaPrintHhandWords
import Derived.Test.YtpmogeekhkcfjaaPrintR0x4
import Derived.Test.YtpmogeekhkcfjaaPrintR0x5
import Derived.Test.YtpmogeekhkcfjaaPureLInts
namespace Go.Proofs.Ytpmogeekhkcfjaa.Pure
open Go.RowKit Go.Proofs.Ytpmogeekhkcfjaa.Print Go.Proofs.YtpmogeekhkcfjaaW.PrintWords Go.Proofs.YtpmogeekhkcfjaaW.PrintLast Go.Proofs.YtpmogeekhkcfjaaW.PrintMore
set_option linter.unusedVariables false
set_option linter.unusedSimpArgs false
/-! ### The reader of draws -/
/-- A code that a reader reads. -/
def CodeOk (b : List Int) : Prop := b.length ≤ 2000 ∧ ∀ x ∈ b, 0 ≤ x ∧ x ≤ 255
theorem code_rd (b : List Int) (h : CodeOk b) (i : Int) (h0 : 0 ≤ i) (h1 : i < b.length) : 0 ≤ rd b i ∧ rd b i ≤ 255 := by
  obtain ⟨n, rfl⟩ := Int.eq_ofNat_of_zero_le h0
  rw [rdN b n (by omega)]
  exact h.2 _ (List.getElem_mem _)
theorem xor_nonneg (a b : Int) (ha : 0 ≤ a) (ha1 : a < 4611686018427387904) (hb : 0 ≤ b) (hb1 : b < 4611686018427387904) : 0 ≤ Go.bits .xor .i64 a b := by
  obtain ⟨n, rfl⟩ := Int.eq_ofNat_of_zero_le ha
  obtain ⟨m, rfl⟩ := Int.eq_ofNat_of_zero_le hb
  have hx : n ^^^ m < 2 ^ 62 := Nat.xor_lt_two_pow (by omega) (by omega)
  have e : Go.bits .xor .i64 (n : Int) (m : Int) = ((n ^^^ m : Nat) : Int) := by
    have hp : (2 : Nat) ^ IntKind.i64.bits = 18446744073709551616 := by decide
    have ha' : n % 2 ^ IntKind.i64.bits = n := Nat.mod_eq_of_lt (by omega)
    have hb' : m % 2 ^ IntKind.i64.bits = m := Nat.mod_eq_of_lt (by omega)
    simp only [bits, BitVec.ofInt_natCast, BitVec.toNat_xor, BitVec.toNat_ofNat, ha', hb']
    rw [IntKind.wrap_i64]
    omega
  rw [e]
  omega
theorem spec_reader_pick.ev (b : List Int) (h : CodeOk b) (p n : Int) (hp0 : 0 ≤ p) (hp1 : p < 1000000000) (hn : n ≤ 1000000) : ∃ v, Ev (fun k => spec_reader_pick.f k b p n) (v, p + 1) ∧ 0 ≤ v ∧ (v < n ∨ v = 0) := by
  have hw : wrap64 (p + 1) = p + 1 := wrapIn (by omega) (by omega)
  have hw1 : wrap64 (p + 1 - 1) = p := by rw [wrapIn (by omega) (by omega)]; omega
  unfold spec_reader_pick.f
  rw [hw]
  by_cases hn1 : n < 1
  · refine ⟨0, evPos hn1 (Ev.step (fun k => by simp only [spec_reader_pick.j0]; rfl) (evPos (by trivial) (evRet rfl))), by omega, .inr rfl⟩
  by_cases hb : (b.length : Int) = 0
  · refine ⟨0, evNeg hn1 (Ev.step (fun k => by simp only [spec_reader_pick.j0]; rfl) (evPos (by simp [hb]) (evRet rfl))), by omega, .inr rfl⟩
  have hbf : ((b.length : Int) == 0) = false := by simpa using hb
  have hl := h.1
  by_cases hlt : p < (b.length : Int)
  · have hr := code_rd b h p hp0 hlt
    refine ⟨Int.tmod (wrap64 (rd b p)) n, evNeg hn1 (Ev.step (fun k => by simp only [spec_reader_pick.j0, hbf, hw1]; rfl) (evNeg (by simp) (evPos hlt (evPos hp0 (evNeg (by omega) (evRet rfl)))))), ?_, .inl ?_⟩
    · exact Int.tmod_nonneg _ (by rw [wrapIn (by omega) (by omega)]; omega)
    · exact Int.tmod_lt_of_pos _ (by omega)
  · have hm0 : 0 ≤ Int.tmod p (b.length : Int) := Int.tmod_nonneg _ hp0
    have hm1 : Int.tmod p (b.length : Int) < b.length := Int.tmod_lt_of_pos _ (by omega)
    have hq : wrap64 (wrap64 (p * 7) + 3) = p * 7 + 3 := by rw [wrapIn (x := p * 7) (by omega) (by omega), wrapIn (by omega) (by omega)]
    have hk0 : 0 ≤ Int.tmod (p * 7 + 3) (b.length : Int) := Int.tmod_nonneg _ (by omega)
    have hk1 : Int.tmod (p * 7 + 3) (b.length : Int) < b.length := Int.tmod_lt_of_pos _ (by omega)
    have r1 := code_rd b h _ hm0 hm1
    have r2 := code_rd b h _ hk0 hk1
    have hd0 : 0 ≤ Int.tdiv p (b.length : Int) := Int.tdiv_nonneg hp0 (by omega)
    have hd1 : Int.tdiv p (b.length : Int) ≤ p := by
      have := Int.natAbs_tdiv_le_natAbs p (b.length : Int)
      omega
    refine ⟨_, evNeg hn1 (Ev.step (fun k => by simp only [spec_reader_pick.j0, hbf, hw1, hq]; rfl) (evNeg (by simp) (evNeg hlt (evNeg hb (evPos hm0 (evPos hm1 (evPos hk0 (evPos hk1 (evNeg (by omega) (evRet rfl)))))))))), ?_, .inl (Int.tmod_lt_of_pos _ (by omega))⟩
    generalize rd b (Int.tmod p (b.length : Int)) = u at *
    generalize rd b (Int.tmod (p * 7 + 3) (b.length : Int)) = t at *
    generalize Int.tdiv p (b.length : Int) = q at *
    rw [wrapIn (x := u) (by omega) (by omega), wrapIn (x := t) (by omega) (by omega), wrapIn (x := q) (by omega) (by omega), wrapIn (x := u * 131) (by omega) (by omega), wrapIn (x := t * 1117) (by omega) (by omega), wrapIn (x := u * 131 + t * 1117) (by omega) (by omega), wrapIn (x := p * 29) (by omega) (by omega), wrapIn (x := u * 131 + t * 1117 + p * 29) (by omega) (by omega), wrapIn (x := q * 53) (by omega) (by omega), wrapIn (x := u * 131 + t * 1117 + p * 29 + q * 53) (by omega) (by omega)]
    generalize hX : u * 131 + t * 1117 + p * 29 + q * 53 = X
    have hX0 : 0 ≤ X := by omega
    have hX1 : X < 4611686018427387904 := by omega
    have hT0 : 0 ≤ Int.tdiv X 64 := Int.tdiv_nonneg hX0 (by omega)
    have hT1 : Int.tdiv X 64 ≤ X := by
      have := Int.natAbs_tdiv_le_natAbs X 64
      omega
    rw [wrapIn (x := Int.tdiv X 64) (by omega) (by omega)]
    exact Int.tmod_nonneg _ (xor_nonneg _ _ hX0 hX1 hT0 (by omega))
theorem spec_newReader.ev (l : List Int) (hw : ∀ x ∈ l, (Lit.int .u8 x).wf = true) : ∃ b, spec_newReader.f l = some (b, 0) ∧ CodeOk b := by
  have hx : ∀ x ∈ l, 0 ≤ x ∧ x ≤ 255 := fun x hx => by
    have := hw x hx
    have hmin : IntKind.u8.min = 0 := rfl
    have hmax : IntKind.u8.max = 255 := rfl
    simp only [Lit.wf, Bool.and_eq_true, decide_eq_true_eq] at this
    omega
  unfold spec_newReader.f
  by_cases h : (l.length : Int) > 2000
  · rw [if_pos h, if_pos (by omega)]
    exact ⟨_, rfl, by simp; omega, fun x h2 => hx x (List.mem_of_mem_take h2)⟩
  · rw [if_neg h]
    exact ⟨_, rfl, by omega, hx⟩

end Go.Proofs.Ytpmogeekhkcfjaa.Pure
