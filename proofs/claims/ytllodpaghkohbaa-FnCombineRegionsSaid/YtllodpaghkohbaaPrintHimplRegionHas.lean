-- laid by hp.py (a program of this work over the kit's print), with contracts by hand for what the print does not take
import Derived.Test.YtllodpaghkohbaaPrint0
import Derived.Test.YtllodpaghkohbaaPrintHhandValid
import Derived.Test.YtllodpaghkohbaaPrintHimplgridOf
import Derived.Test.YtllodpaghkohbaaPrintHimplgridhas
namespace Go.Proofs.Ytllodpaghkohbaa.Print
open Go.RowKit Go.Proofs.YtllodpaghkohbaaW.PrintWords Go.Proofs.YtllodpaghkohbaaW.PrintLast Go.Proofs.YtllodpaghkohbaaW.PrintMore
attribute [local go_sem] max2_int min2_int max_two min_two max_three min_three max_four min_four   -- for this text's walks alone
set_option linter.unusedVariables false
set_option linter.unusedSimpArgs false

--SNIP impl_RegionHas
/-! ### impl_RegionHas: function 20, by hand -/
def impl_RegionHas.f (l0 : List S62) (a1 : Int) (a2 : Int) : Option Bool := some (decide (Valid l0) && hasF (gridF l0) a1 a2)
set_option maxHeartbeats 8000000 in
set_option maxRecDepth 100000 in
theorem impl_RegionHas.calls (A0 : Option Addr) (c0 : Nat) (l0 : List S62) (a1 : Int) (a2 : Int) (r : Bool) (w : World) (hr0 : Kd.C k62 w A0 l0.length l0) (hc0 : l0.length ≤ c0) (h : impl_RegionHas.f l0 a1 a2 = some r) :
    Calls Try.prog 20 #[.slice A0 l0.length c0, .int .i64 a1, .int .i64 a2] w fun e w' => e = .returned (.bool r) ∧ Below w.heap.size w w' := by
  obtain rfl := Option.some.inj h
  clear h
  have HV := Aside0.mk (isRegion_calls A0 c0 l0 w hr0 hc0)
  have HR := Aside0.mk hr0
  clear hr0 hc0
  by_cases hv : Valid l0
  · have HD := Aside0.mk (decide_eq_true hv)
    have HV2 := Aside0.mk hv
    clear hv
    go_enter Try.func20, Try.ntmps20
    go_wp2_with (first | (go_at_call 43; rw [HD.out] at HV; refine HV.out.mono ?_; rintro e w1 ⟨rfl, hb1⟩; have HB1 := Aside0.mk hb1; clear hb1) | (go_at_call 44; refine (impl_gridOf.any A0 c0 l0 _ (Kd.C_below HR.out HB1.out) HR.out.2.1 HV2.out.runsOk).mono ?_; rintro e w2 ⟨rfl, hb2⟩; have HB2 := Aside0.mk (below_step HB1.out hb2); clear hb2) | (go_at_call 51; refine (impl_grid_has.any _ _ _ _).mono ?_; rintro e w3 ⟨rfl, hb3⟩; have HB3 := Aside0.mk (below_step HB2.out hb3); clear hb3))
    go_ret
    exact ⟨by rw [HD.out]; rfl, HB3.out⟩
  · have HD := Aside0.mk (decide_eq_false hv)
    clear hv
    go_enter Try.func20, Try.ntmps20
    go_wp2_with (go_at_call 43; rw [HD.out] at HV; refine HV.out.mono ?_; rintro e w1 ⟨rfl, hb1⟩; have HB1 := Aside0.mk hb1; clear hb1)
    go_ret
    exact ⟨by rw [HD.out]; rfl, HB1.out⟩

end Go.Proofs.Ytllodpaghkohbaa.Print
