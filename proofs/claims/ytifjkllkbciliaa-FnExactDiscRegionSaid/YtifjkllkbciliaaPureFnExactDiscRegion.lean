/- FnExactDiscRegion answers true for all arguments: the program's DiscRegion is the reference's, and its result is memory of its own. No condition. -/
import Derived.Test.YtifjkllkbciliaaPrintHhandRuns
import Derived.Test.YtifjkllkbciliaaPrintHhandWords
import Derived.Test.YtifjkllkbciliaaPrintHimplDiscRegion
import Derived.Test.YtifjkllkbciliaaPrintR1x0
import Derived.Test.YtifjkllkbciliaaPureLRunSExact
import Derived.Test.YtifjkllkbciliaaPureLSpecDisc
namespace Go.Proofs.Ytifjkllkbciliaa.Pure
open Go.RowKit Go.Proofs.Ytifjkllkbciliaa.Print Go.Proofs.YtifjkllkbciliaaW.PrintWords Go.Proofs.YtifjkllkbciliaaW.PrintLast Go.Proofs.YtifjkllkbciliaaW.PrintMore
set_option linter.unusedVariables false
set_option linter.unusedSimpArgs false
theorem FnExactDiscRegion : laws_FnExactDiscRegion.Pure := by
  intro x y r _ _ _
  refine Ev.rounds ?_
  have h2 := spec_DiscRegion.ev x y r
  have h3 : impl_DiscRegion.f x y r = some (if discOk x y r then runsL (discF x y r) else []) := rfl
  have hr : (if discOk x y r then runsL (discF x y r) else []).length ≤ 256 := by
    split
    · exact runsL_length _
    · simp
  generalize (if discOk x y r then runsL (discF x y r) else []) = R at *
  have heq := laws_eqRunS.refl R (by omega)
  have hmark := laws_markRunS.ev R 1 (by omega) (by omega)
  have hheld := laws_heldRunS.ev R.length 1 (by omega) (by omega)
  unfold laws_FnExactDiscRegion.f
  refine evBind h2 (evFix h3 (evBind heq ?_))
  refine evPos rfl (evBind hmark (evBind hheld ?_))
  refine evNeg (by first | omega | (simp only []; omega)) ?_
  refine evPos rfl (evFix h3 (evBind heq ?_))
  refine evPos rfl (evBind hheld ?_)
  refine evNeg (by first | omega | (simp only []; omega)) ?_
  exact evPos rfl (evRet rfl)

end Go.Proofs.Ytifjkllkbciliaa.Pure
