-- laid by hp.py (a program of this work over the kit's print), with contracts by hand for what the print does not take
import Derived.Test.YtpmogeekhkcfjaaPrint0
import Derived.Test.YtpmogeekhkcfjaaPrintHslicesContainsFuncintint
namespace Go.Proofs.Ytpmogeekhkcfjaa.Print
open Go.RowKit Go.Proofs.YtpmogeekhkcfjaaW.PrintWords Go.Proofs.YtpmogeekhkcfjaaW.PrintLast Go.Proofs.YtpmogeekhkcfjaaW.PrintMore
attribute [local go_sem] max2_int min2_int max_two min_two max_three min_three max_four min_four   -- for this text's walks alone
set_option linter.unusedVariables false
set_option linter.unusedSimpArgs false

--SNIP impl_isPairList
/-! ### impl_isPairList: function 21, by hand -/
set_option maxHeartbeats 8000000 in
set_option maxRecDepth 100000 in
theorem impl_isPairList_1.any (x : Int) (w : World) :
    Calls Try.prog 31 #[.int .i64 x] w fun e w' => e = .returned (.bool (decide (x < -999) || decide (999 < x))) ∧ Drawn0 w w' := by
  by_cases h : x < -999
  · go_enter Try.func31, Try.ntmps31
    go_wp2
    go_ret
    exact ⟨by simp [h], by repeat (first | exact Drawn0.refl _ | apply Drawn0.step)⟩
  · go_enter Try.func31, Try.ntmps31
    go_wp2
    go_ret
    exact ⟨by rw [decide_eq_false (show ¬ x < -999 by omega)]; simp, by repeat (first | exact Drawn0.refl _ | apply Drawn0.step)⟩
def impl_isPairList.f (l0 : List Int) : Option Bool := some (decide (l0.length ≤ 64) && !(l0.any fun x => decide (x < -999) || decide (999 < x)))
set_option maxHeartbeats 8000000 in
set_option maxRecDepth 100000 in
theorem impl_isPairList.calls (A0 : Option Addr) (c0 : Nat) (l0 : List Int) (r : Bool) (w : World) (hr0 : Kd.C (Kd.int .i64) w A0 l0.length l0) (hc0 : l0.length ≤ c0) (h : impl_isPairList.f l0 = some r) :
    Calls Try.prog 21 #[.slice A0 l0.length c0] w fun e w' => e = .returned (.bool r) ∧ Drawn0 w w' := by
  obtain rfl := Option.some.inj h
  clear h
  by_cases hl : l0.length ≤ 64
  · have HC := Aside0.mk (fun W (hW : Drawn0 w W) => slices_ContainsFunc_int_int.any 31 _ #[] (fun x => decide (x < -999) || decide (999 < x)) Try.func31 (by kernel_rfl) rfl A0 c0 l0 W (by obtain ⟨n, rfl⟩ := hW; exact hr0) (by omega) (fun x w' _ => impl_isPairList_1.any x w'))
    have hd : decide (l0.length ≤ 64) = true := decide_eq_true hl
    clear hr0
    go_enter Try.func21, Try.ntmps21
    go_wp2_with (go_at_call 30; refine (HC.out w (Drawn0.refl w)).mono ?_; rintro e w' ⟨rfl, ⟨nd, rfl⟩⟩)
    go_ret
    exact ⟨by simp [hl], by repeat (first | exact Drawn0.refl _ | apply Drawn0.step)⟩
  · have hd : decide (l0.length ≤ 64) = false := decide_eq_false hl
    clear hr0
    go_enter Try.func21, Try.ntmps21
    go_wp2
    go_ret
    exact ⟨by simp [hl], by repeat (first | exact Drawn0.refl _ | apply Drawn0.step)⟩

end Go.Proofs.Ytpmogeekhkcfjaa.Print
