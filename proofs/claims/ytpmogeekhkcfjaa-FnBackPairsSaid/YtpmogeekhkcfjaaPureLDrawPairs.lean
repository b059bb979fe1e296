/- A part of this work's pure proofs. -/
import Derived.Test.YtpmogeekhkcfjaaPrintHhandWords
import Derived.Test.YtpmogeekhkcfjaaPrintR0x5
import Derived.Test.YtpmogeekhkcfjaaPrintR0x6
import Derived.Test.YtpmogeekhkcfjaaPureLReader
import Derived.Test.YtpmogeekhkcfjaaPureLReaderOne
import Derived.Test.YtpmogeekhkcfjaaPureLReaderSpoil
namespace Go.Proofs.Ytpmogeekhkcfjaa.Pure
open Go.RowKit Go.Proofs.Ytpmogeekhkcfjaa.Print Go.Proofs.YtpmogeekhkcfjaaW.PrintWords Go.Proofs.YtpmogeekhkcfjaaW.PrintLast Go.Proofs.YtpmogeekhkcfjaaW.PrintMore
set_option linter.unusedVariables false
set_option linter.unusedSimpArgs false
theorem spec_anyPairs.ev_l0 (b : List Int) (h : CodeOk b) (n : Nat) : ∀ (x : List Int) (p : Int), 0 ≤ p → p + n ≤ 100000 → x.length + n ≤ 1000 →
    ∃ r q, Ev (fun k => spec_anyPairs.l0 k x (n : Int) b p) (r, q) ∧ r.length ≤ x.length + n + 1 := by
  induction n with
  | zero =>
    intro x p h0 h1 h2
    obtain ⟨r, q, hr, _, _, hl⟩ := spec_reader_spoil.ev b h p h0 (by omega) x (by omega) 1000
    exact ⟨r, q, Ev.step (fun k => by simp only [spec_anyPairs.l0]; rfl) (evNeg (by omega) (evBind hr (evRet rfl))), by omega⟩
  | succ n ih =>
    intro x p h0 h1 h2
    obtain ⟨v, hv, _, _⟩ := spec_reader_pick.ev b h p 40 h0 (by omega) (by omega)
    obtain ⟨r, q, hr, hl⟩ := ih (x ++ [wrap64 (v - 20)]) (p + 1) (by omega) (by omega) (by simp; omega)
    have hw : wrap64 (((n + 1 : Nat) : Int) - 1) = (n : Int) := by rw [wrapIn (by omega) (by omega)]; omega
    refine ⟨r, q, ?_, by simp at hl; omega⟩
    refine Ev.step (fun k => by simp only [spec_anyPairs.l0, hw]; rfl) (evPos (by omega) (evBind hv ?_))
    exact evPos (show x.length < 17592186044416 by omega) hr
theorem spec_anyPairs.ev (b : List Int) (h : CodeOk b) : ∃ r q, Ev (fun k => spec_anyPairs.f k b 0) (r, q) ∧ r.length ≤ 100 := by
  obtain ⟨v, hv, hm⟩ := spec_reader_one.ev b h 0 (by omega) (by omega) [4, 5, 8, 1, 0, 2, 64, 65] (by simp) (by simp)
  have hv2 : 0 ≤ v ∧ v ≤ 65 := by simp at hm; omega
  obtain ⟨n, rfl⟩ := Int.eq_ofNat_of_zero_le hv2.1
  obtain ⟨r, q, hr, hl⟩ := spec_anyPairs.ev_l0 b h n [] (0 + 1) (by omega) (by omega) (by simp; omega)
  refine ⟨r, q, ?_, by simp at hl; omega⟩
  unfold spec_anyPairs.f
  exact evBind hv hr
theorem spec_DrawForwardPairs.ev (l : List Int) (hw : ∀ x ∈ l, (Lit.int .u8 x).wf = true) : ∃ r, Ev (fun k => spec_DrawForwardPairs.f k l) r ∧ r.length ≤ 100 := by
  obtain ⟨b, hb, h⟩ := spec_newReader.ev l hw
  obtain ⟨r, q, hr, hl⟩ := spec_anyPairs.ev b h
  exact ⟨r, by unfold spec_DrawForwardPairs.f; exact evFix hb (evBind hr (evRet rfl)), hl⟩
theorem spec_DrawBackPairs.ev (l : List Int) (hw : ∀ x ∈ l, (Lit.int .u8 x).wf = true) : ∃ r, Ev (fun k => spec_DrawBackPairs.f k l) r ∧ r.length ≤ 100 := by
  obtain ⟨b, hb, h⟩ := spec_newReader.ev l hw
  obtain ⟨r, q, hr, hl⟩ := spec_anyPairs.ev b h
  exact ⟨r, by unfold spec_DrawBackPairs.f; exact evFix hb (evBind hr (evRet rfl)), hl⟩

end Go.Proofs.Ytpmogeekhkcfjaa.Pure
