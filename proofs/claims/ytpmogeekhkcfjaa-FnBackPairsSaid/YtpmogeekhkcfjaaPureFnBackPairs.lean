/- FnBackPairs answers true for every code: ForwardPairs of BackPairs of a list is the list. No condition. -/
import Derived.Test.YtpmogeekhkcfjaaPrintHhandWords
import Derived.Test.YtpmogeekhkcfjaaPrintR0x5
import Derived.Test.YtpmogeekhkcfjaaPrintR1x4
import Derived.Test.YtpmogeekhkcfjaaPureLBackPairs
import Derived.Test.YtpmogeekhkcfjaaPureLDrawPairs
import Derived.Test.YtpmogeekhkcfjaaPureLPairs
import Derived.Test.YtpmogeekhkcfjaaPureLeqInts
namespace Go.Proofs.Ytpmogeekhkcfjaa.Pure
open Go.RowKit Go.Proofs.Ytpmogeekhkcfjaa.Print Go.Proofs.YtpmogeekhkcfjaaW.PrintWords Go.Proofs.YtpmogeekhkcfjaaW.PrintLast Go.Proofs.YtpmogeekhkcfjaaW.PrintMore
set_option linter.unusedVariables false
set_option linter.unusedSimpArgs false
theorem FnBackPairs : laws_FnBackPairs.Pure := by
  intro l _ _ hw
  refine Ev.rounds ?_
  obtain ⟨r, hr, hlen⟩ := spec_DrawBackPairs.ev l hw
  have h2 := spec_BackPairs.ev r
  have h3 := impl_BackPairs.ev r
  unfold laws_FnBackPairs.f
  by_cases hok : BackOk r
  · rw [if_pos hok] at h2 h3
    have heq : Ev (fun k => laws_equalInts.f k (bwdP r) (bwdP r)) true := by
      have := laws_equalInts.ev (bwdP r) (bwdP r) (by rw [bwdP_length]; omega)
      simpa using this
    have heq2 : Ev (fun k => laws_equalInts.f k r r) true := by
      have := laws_equalInts.ev r r (by omega)
      simpa using this
    have h4 := impl_ForwardPairs.ev (bwdP r)
    rw [if_pos hok.2, fwd_bwd] at h4
    refine evIf (fun _ => evRet rfl) (fun _ => evBind hr (evBind h3 (evBind h2 (evBind heq (evPos rfl (evNeg (by simp) ?_))))))
    refine Ev.step (fun k => by simp only [laws_FnBackPairs.j0]; rfl) ?_
    refine evNeg (by simp) (evBind h4 ?_)
    exact evBind heq2 (evRet rfl)
  · rw [if_neg hok] at h2 h3
    have heq : Ev (fun k => laws_equalInts.f k [] []) true := by
      have := laws_equalInts.ev [] [] (by simp)
      simpa using this
    refine evIf (fun _ => evRet rfl) (fun _ => evBind hr (evBind h3 (evBind h2 (evBind heq (evPos rfl (evNeg (by simp) ?_))))))
    refine Ev.step (fun k => by simp only [laws_FnBackPairs.j0]; rfl) ?_
    refine evPos (by simp) (evBind heq ?_)
    exact evPos rfl (evRet rfl)

end Go.Proofs.Ytpmogeekhkcfjaa.Pure
