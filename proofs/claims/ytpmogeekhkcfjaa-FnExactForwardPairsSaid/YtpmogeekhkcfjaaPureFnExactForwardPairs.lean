/- FnExactForwardPairs answers true for every list: the program's ForwardPairs is the reference's, and its result is memory of its own. No condition. -/
import Derived.Test.YtpmogeekhkcfjaaPrintHhandWords
import Derived.Test.YtpmogeekhkcfjaaPrintR0x4
import Derived.Test.YtpmogeekhkcfjaaPrintR1x0
import Derived.Test.YtpmogeekhkcfjaaPureLPairs
import Derived.Test.YtpmogeekhkcfjaaPureLeqIntS
import Derived.Test.YtpmogeekhkcfjaaPureLmarkIntS
import Derived.Test.YtpmogeekhkcfjaaPureLtoIntS
namespace Go.Proofs.Ytpmogeekhkcfjaa.Pure
open Go.RowKit Go.Proofs.Ytpmogeekhkcfjaa.Print Go.Proofs.YtpmogeekhkcfjaaW.PrintWords Go.Proofs.YtpmogeekhkcfjaaW.PrintLast Go.Proofs.YtpmogeekhkcfjaaW.PrintMore
set_option linter.unusedVariables false
set_option linter.unusedSimpArgs false
theorem FnExactForwardPairs : laws_FnExactForwardPairs.Pure := by
  intro l _ hl _
  refine Ev.rounds ?_
  have h1 := laws_toIntS.ev l hl
  have h2 := spec_ForwardPairs.ev l (by omega)
  have h3 := impl_ForwardPairs.ev l
  have hr : (if PairOk l then fwdP l else []).length ≤ 64 := by
    split
    · rename_i h; rw [fwdP_length]; exact h.1
    · simp
  generalize (if PairOk l then fwdP l else []) = r at *
  have heq : Ev (fun k => laws_eqIntS.f k r r) true := by
    have := laws_eqIntS.ev r r (by omega)
    simpa using this
  have heql : Ev (fun k => laws_eqIntS.f k l l) true := by
    have := laws_eqIntS.ev l l (by omega)
    simpa using this
  unfold laws_FnExactForwardPairs.f
  refine evIf (fun _ => evRet rfl) (fun _ => evBind h1 (evBind h2 (evBind h1 (evBind h3 (evBind heq (evPos rfl (evBind h1 (evBind heql (evPos rfl (evBind (laws_markIntS.ev l 1 (by omega) (by omega)) (evNeg (by simp; omega) (evBind heq ?_))))))))))))
  refine Ev.step (fun k => by simp only [laws_FnExactForwardPairs.j0]; rfl) (evNeg (by simp) ?_)
  have hheld := laws_heldIntS.ev r.length 1 (by omega) (by omega)
  refine evBind (laws_markIntS.ev r 1 (by omega) (by omega)) (evBind hheld (evNeg (by simp; omega) (evPos rfl (evBind h1 (evBind h3 (evBind heq (evPos rfl (evBind hheld (evNeg (by simp; omega) (evPos rfl (evRet rfl)))))))))))

end Go.Proofs.Ytpmogeekhkcfjaa.Pure
