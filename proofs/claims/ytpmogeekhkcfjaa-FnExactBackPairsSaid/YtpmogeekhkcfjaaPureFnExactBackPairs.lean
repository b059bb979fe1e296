/- FnExactBackPairs answers true for every list: the program's BackPairs is the reference's, and its result is memory of its own. No condition. -/
import Derived.Test.YtpmogeekhkcfjaaPrintHhandWords
import Derived.Test.YtpmogeekhkcfjaaPrintR0x4
import Derived.Test.YtpmogeekhkcfjaaPrintR1x3
import Derived.Test.YtpmogeekhkcfjaaPureLBackPairs
import Derived.Test.YtpmogeekhkcfjaaPureLeqIntS
import Derived.Test.YtpmogeekhkcfjaaPureLmarkIntS
import Derived.Test.YtpmogeekhkcfjaaPureLtoIntS
namespace Go.Proofs.Ytpmogeekhkcfjaa.Pure
open Go.RowKit Go.Proofs.Ytpmogeekhkcfjaa.Print Go.Proofs.YtpmogeekhkcfjaaW.PrintWords Go.Proofs.YtpmogeekhkcfjaaW.PrintLast Go.Proofs.YtpmogeekhkcfjaaW.PrintMore
set_option linter.unusedVariables false
set_option linter.unusedSimpArgs false
theorem FnExactBackPairs : laws_FnExactBackPairs.Pure := by
  intro l _ hl _
  refine Ev.rounds ?_
  have h1 := laws_toIntS.ev l hl
  have h2 := spec_BackPairs.ev l
  have h3 := impl_BackPairs.ev l
  have hr : (if BackOk l then (bwdP l, true) else ([], false)).1.length ≤ 64 := by
    split
    · rename_i h; rw [bwdP_length]; exact h.1
    · simp
  generalize (if BackOk l then (bwdP l, true) else ([], false)) = r at *
  obtain ⟨r, b⟩ := r
  have heq : Ev (fun k => laws_eqIntS.f k r r) true := by
    have := laws_eqIntS.ev r r (by simp at hr; omega)
    simpa using this
  have heql : Ev (fun k => laws_eqIntS.f k l l) true := by
    have := laws_eqIntS.ev l l (by omega)
    simpa using this
  have hheld := laws_heldIntS.ev r.length 1 (by omega) (by simp at hr; omega)
  have hmark := laws_markIntS.ev r 1 (by omega) (by simp at hr; omega)
  unfold laws_FnExactBackPairs.f
  refine evIf (fun _ => evRet rfl) (fun _ => evBind h1 (evBind h2 (evBind h1 (evBind h3 (evBind heq (evPos rfl ?_))))))
  refine Ev.step (fun k => by simp only [laws_FnExactBackPairs.j0]; rfl) ?_
  refine evNeg (by simp) (evBind h1 (evBind heql (evPos rfl (evBind (laws_markIntS.ev l 1 (by omega) (by omega)) ?_))))
  refine evNeg (by first | omega | (simp only []; omega)) (evBind heq (evPos rfl ?_))
  refine Ev.step (fun k => by simp only [laws_FnExactBackPairs.j1]; rfl) ?_
  refine evNeg (by simp) (evBind hmark (evBind hheld ?_))
  refine evNeg (by first | omega | (simp only []; omega)) (evPos rfl (evBind h1 (evBind h3 (evBind heq (evPos rfl ?_)))))
  refine Ev.step (fun k => by simp only [laws_FnExactBackPairs.j2]; rfl) ?_
  refine evNeg (by simp) (evBind hheld ?_)
  exact evNeg (by first | omega | (simp only []; omega)) (evPos rfl (evRet rfl))

end Go.Proofs.Ytpmogeekhkcfjaa.Pure
