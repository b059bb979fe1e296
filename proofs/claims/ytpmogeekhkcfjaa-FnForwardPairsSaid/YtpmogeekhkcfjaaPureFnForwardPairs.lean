/- FnForwardPairs answers true for every code: BackPairs of ForwardPairs is the list, and it has as many numbers. No condition. -/
import Derived.Test.YtpmogeekhkcfjaaPrintHhandWords
import Derived.Test.YtpmogeekhkcfjaaPrintR0x5
import Derived.Test.YtpmogeekhkcfjaaPrintR1x4
import Derived.Test.YtpmogeekhkcfjaaPureLBackPairs
import Derived.Test.YtpmogeekhkcfjaaPureLDrawPairs
import Derived.Test.YtpmogeekhkcfjaaPureLPairs
import Derived.Test.YtpmogeekhkcfjaaPureLeqInts
namespace Go.Proofs.Ytpmogeekhkcfjaa.Pure
open Go.RowKit Go.Proofs.Ytpmogeekhkcfjaa.Print Go.Proofs.YtpmogeekhkcfjaaW.PrintWords Go.Proofs.YtpmogeekhkcfjaaW.PrintLast Go.Proofs.YtpmogeekhkcfjaaW.PrintMore
set_option linter.unusedVariables false
set_option linter.unusedSimpArgs false
theorem FnForwardPairs : laws_FnForwardPairs.Pure := by
  intro l _ _ hw
  refine Ev.rounds ?_
  obtain ⟨r, hr, hlen⟩ := spec_DrawForwardPairs.ev l hw
  have h2 := spec_ForwardPairs.ev r (by omega)
  have h3 := impl_ForwardPairs.ev r
  have heq : Ev (fun k => laws_equalInts.f k (if PairOk r then fwdP r else []) (if PairOk r then fwdP r else [])) true := by
    have := laws_equalInts.ev (if PairOk r then fwdP r else []) (if PairOk r then fwdP r else []) (by split; rw [fwdP_length]; omega; simp)
    simpa using this
  unfold laws_FnForwardPairs.f
  refine evIf (fun _ => evRet rfl) (fun _ => evBind hr (evBind h3 (evBind h2 (evBind heq (evPos rfl ?_)))))
  refine Ev.step (fun k => by simp only [laws_FnForwardPairs.j0]; rfl) (evIf (fun _ => evBind h2 (evBind heq (evRet rfl))) (fun hne => ?_))
  by_cases hp : PairOk r
  · rw [if_pos hp] at *
    have hb : BackOk (fwdP r) := backOk_of r _ hp rfl
    have h4 := impl_BackPairs.ev (fwdP r)
    rw [if_pos hb, bwd_fwd] at h4
    have heq2 : Ev (fun k => laws_equalInts.f k r r) true := by
      have := laws_equalInts.ev r r (by omega)
      simpa using this
    refine evBind h4 (evPos rfl (evBind heq2 (evPos rfl (evRet ?_))))
    rw [fwdP_length]
    simp
  · rw [if_neg hp] at hne
    simp at hne

end Go.Proofs.Ytpmogeekhkcfjaa.Pure
