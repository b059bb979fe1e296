-- laid by hp.py (a program of this work over the kit's print), with contracts by hand for what the print does not take
import Derived.Test.YtpmogeekhkcfjaaPrint0
import Derived.Test.YtpmogeekhkcfjaaPrintHslicesIndexFuncintint
namespace Go.Proofs.Ytpmogeekhkcfjaa.Print
open Go.RowKit Go.Proofs.YtpmogeekhkcfjaaW.PrintWords Go.Proofs.YtpmogeekhkcfjaaW.PrintLast Go.Proofs.YtpmogeekhkcfjaaW.PrintMore
attribute [local go_sem] max2_int min2_int max_two min_two max_three min_three max_four min_four   -- for this text's walks alone
set_option linter.unusedVariables false
set_option linter.unusedSimpArgs false

--SNIP slices_ContainsFunc_int_int
theorem idxOf_any {α : Type} (P : α → Bool) (l : List α) : decide (0 ≤ idxOf P l) = l.any P := by
  unfold idxOf
  by_cases h : l.findIdx P < l.length
  · rw [if_pos h]
    have : l.any P = true := by
      rw [List.any_eq_true]
      exact ⟨_, List.getElem_mem h, List.findIdx_getElem (w := h)⟩
    rw [this]
    simp
  · rw [if_neg h]
    have : l.any P = false := by
      rw [Bool.eq_false_iff]
      intro ha
      exact h (by rw [List.findIdx_lt_length]; simpa using ha)
    rw [this]
    rfl
set_option maxHeartbeats 8000000 in
set_option maxRecDepth 100000 in
theorem slices_ContainsFunc_int_int.any (K : FuncId) (fn : Func) (caps : Array Value) (P : Int → Bool) (hK : Try.prog.funcs[K]? = some fn) (hname : (fn.name == "runtime.NumGoroutine") = false) (hb : fn.body.isSome = true)
    (A0 : Option Addr) (c0 : Nat) (l0 : List Int) (w : World) (hr0 : Kd.C (Kd.int .i64) w A0 l0.length l0) (hm0 : l0.length ≤ 9223372036854775807)
    (hf : ∀ (x : Int) (w' : World), x ∈ l0 → Calls Try.prog K (#[.int .i64 x] ++ caps) w' fun e w'' => e = .returned (.bool (P x)) ∧ Drawn0 w' w'') :
    Calls Try.prog 30 #[.slice A0 l0.length c0, .func (.func K) #[] caps] w fun e w' => e = .returned (.bool (l0.any P)) ∧ Drawn0 w w' := by
  have HI := Aside0.mk (fun W : World => slices_IndexFunc_int_int.any K fn caps P hK hname hb A0 c0 l0 w hr0 hm0 hf)
  clear hf hr0 hK hname hb
  go_enter Try.func30, Try.ntmps30
  go_wp2_with (go_at_call 37; refine (HI.out w).mono ?_; rintro e w' ⟨rfl, ⟨nd, rfl⟩⟩)
  go_ret
  exact ⟨by rw [← idxOf_any P l0]; rfl, by repeat (first | exact Drawn0.refl _ | apply Drawn0.step)⟩

end Go.Proofs.Ytpmogeekhkcfjaa.Print
