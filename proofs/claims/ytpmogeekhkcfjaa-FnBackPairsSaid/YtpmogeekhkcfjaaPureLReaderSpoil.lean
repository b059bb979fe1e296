/- A part of this work's pure proofs. -/
import Derived.Test.YtpmogeekhkcfjaaPrintHhandWords
import Derived.Test.YtpmogeekhkcfjaaPrintR0x5
import Derived.Test.YtpmogeekhkcfjaaPureLReader
import Derived.Test.YtpmogeekhkcfjaaPureLReaderOne
namespace Go.Proofs.Ytpmogeekhkcfjaa.Pure
open Go.RowKit Go.Proofs.Ytpmogeekhkcfjaa.Print Go.Proofs.YtpmogeekhkcfjaaW.PrintWords Go.Proofs.YtpmogeekhkcfjaaW.PrintLast Go.Proofs.YtpmogeekhkcfjaaW.PrintMore
set_option linter.unusedVariables false
set_option linter.unusedSimpArgs false
theorem spec_copyInts.val (l : List Int) (h : l.length < 17592186044416) : spec_copyInts.f l = some l := by
  unfold spec_copyInts.f
  simp [h]
theorem spec_reader_spoil.ev (b : List Int) (h : CodeOk b) (p : Int) (hp0 : 0 ≤ p) (hp1 : p < 900000000) (l : List Int) (hl : l.length ≤ 1000000) (n : Int) : ∃ r q, Ev (fun k => spec_reader_spoil.f k b p l n) (r, q) ∧ p ≤ q ∧ q ≤ p + 3 ∧ r.length ≤ l.length + 1 := by
  obtain ⟨v, hv, h0, h1⟩ := spec_reader_pick.ev b h p 20 hp0 (by omega) (by omega)
  unfold spec_reader_spoil.f
  have hc := spec_copyInts.val l (by omega)
  by_cases e0 : v = 0
  · exact ⟨l ++ [n], p + 1, evFix hc (evBind hv (evPos e0 (evPos (by omega) (evRet rfl)))), by omega, by omega, by simp⟩
  by_cases e1 : v = 1
  · by_cases hz : (l.length : Int) > 0
    · exact ⟨l.drop (1 : Int).toNat, p + 1, evFix hc (evBind hv (evNeg e0 (evPos e1 (evPos hz (evPos (by omega) (evRet rfl)))))), by omega, by omega, by simp; omega⟩
    · exact ⟨l, p + 1, evFix hc (evBind hv (evNeg e0 (evPos e1 (evNeg hz (evRet rfl))))), by omega, by omega, by omega⟩
  by_cases e2 : v = 2
  · by_cases hz : (l.length : Int) > 0
    · obtain ⟨u, hu, u0, u1⟩ := spec_reader_pick.ev b h (p + 1) (l.length : Int) (by omega) (by omega) (by omega)
      obtain ⟨t, ht, _⟩ := spec_reader_one.ev b h (p + 1 + 1) (by omega) (by omega) [(-1), n, 0, 1] (by simp) (by simp)
      exact ⟨l.set u.toNat t, p + 1 + 1 + 1, evFix hc (evBind hv (evNeg e0 (evNeg e1 (evPos e2 (evPos hz (evBind hu (evBind ht (evPos u0 (evPos (by omega) (evRet rfl)))))))))), by omega, by omega, by simp⟩
    · exact ⟨l, p + 1, evFix hc (evBind hv (evNeg e0 (evNeg e1 (evPos e2 (evNeg hz (evRet rfl)))))), by omega, by omega, by omega⟩
  · exact ⟨l, p + 1, evFix hc (evBind hv (evNeg e0 (evNeg e1 (evNeg e2 (evRet rfl))))), by omega, by omega, by omega⟩

end Go.Proofs.Ytpmogeekhkcfjaa.Pure
