/- A part of this work's pure proofs. -/
import Derived.Test.YtpmogeekhkcfjaaPrintHhandWords
import Derived.Test.YtpmogeekhkcfjaaPrintR0x5
import Derived.Test.YtpmogeekhkcfjaaPureLInts
import Derived.Test.YtpmogeekhkcfjaaPureLReader
namespace Go.Proofs.Ytpmogeekhkcfjaa.Pure
open Go.RowKit Go.Proofs.Ytpmogeekhkcfjaa.Print Go.Proofs.YtpmogeekhkcfjaaW.PrintWords Go.Proofs.YtpmogeekhkcfjaaW.PrintLast Go.Proofs.YtpmogeekhkcfjaaW.PrintMore
set_option linter.unusedVariables false
set_option linter.unusedSimpArgs false
theorem spec_reader_one.ev (b : List Int) (h : CodeOk b) (p : Int) (hp0 : 0 ≤ p) (hp1 : p < 1000000000) (l : List Int) (hl0 : 0 < l.length) (hl1 : l.length ≤ 1000) : ∃ v, Ev (fun k => spec_reader_one.f k b p l) (v, p + 1) ∧ v ∈ l := by
  obtain ⟨v, hv, h0, h1⟩ := spec_reader_pick.ev b h p (l.length : Int) hp0 hp1 (by omega)
  have hlt : v < l.length := by omega
  refine ⟨rd l v, ?_, ?_⟩
  · unfold spec_reader_one.f
    exact evBind hv (evPos h0 (evPos hlt (evRet rfl)))
  · obtain ⟨n, rfl⟩ := Int.eq_ofNat_of_zero_le h0
    rw [rdN l n (by omega)]
    exact List.getElem_mem _

end Go.Proofs.Ytpmogeekhkcfjaa.Pure
