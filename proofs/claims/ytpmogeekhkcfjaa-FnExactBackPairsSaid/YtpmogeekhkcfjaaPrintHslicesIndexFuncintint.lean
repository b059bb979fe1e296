-- laid by hp.py (a program of this work over the kit's print), with contracts by hand for what the print does not take
import Derived.Test.YtpmogeekhkcfjaaPrint0
namespace Go.Proofs.Ytpmogeekhkcfjaa.Print
open Go.RowKit Go.Proofs.YtpmogeekhkcfjaaW.PrintWords Go.Proofs.YtpmogeekhkcfjaaW.PrintLast Go.Proofs.YtpmogeekhkcfjaaW.PrintMore
attribute [local go_sem] max2_int min2_int max_two min_two max_three min_three max_four min_four   -- for this text's walks alone
set_option linter.unusedVariables false
set_option linter.unusedSimpArgs false

--SNIP slices_IndexFunc_int_int
/-- The first place where the function says yes; -1 if there is none. -/
def idxOf {α : Type} (P : α → Bool) (l : List α) : Int := if l.findIdx P < l.length then (l.findIdx P : Int) else -1
theorem idxOf_hit {α : Type} (P : α → Bool) (l : List α) (k : Nat) (hk : k < l.length) (h : ∀ j (hj : j < l.length), j < k → P l[j] = false) (hp : P l[k] = true) : idxOf P l = k := by
  have e : l.findIdx P = k := by
    rw [List.findIdx_eq hk]
    exact ⟨hp, fun j hj => h j (by omega) hj⟩
  unfold idxOf
  rw [e, if_pos hk]
theorem idxOf_miss {α : Type} (P : α → Bool) (l : List α) (h : ∀ j (hj : j < l.length), P l[j] = false) : idxOf P l = -1 := by
  unfold idxOf
  rw [if_neg]
  intro hlt
  have := List.findIdx_getElem (w := hlt)
  rw [h] at this
  cases this
theorem rd_get (l : List Int) (k : Nat) (h : k < l.length) : rd l (k : Int) = l[k] := by
  simp [rd, List.getD_eq_getElem?_getD, List.getElem?_eq_getElem h]
set_option maxHeartbeats 8000000 in
set_option maxRecDepth 100000 in
/-- slices.IndexFunc over []int, the function given by its contract. -/
theorem slices_IndexFunc_int_int.any (K : FuncId) (fn : Func) (caps : Array Value) (P : Int → Bool) (hK : Try.prog.funcs[K]? = some fn) (hname : (fn.name == "runtime.NumGoroutine") = false) (hb : fn.body.isSome = true)
    (A0 : Option Addr) (c0 : Nat) (l0 : List Int) (w : World) (hr0 : Kd.C (Kd.int .i64) w A0 l0.length l0) (hm0 : l0.length ≤ 9223372036854775807)
    (hf : ∀ (x : Int) (w' : World), x ∈ l0 → Calls Try.prog K (#[.int .i64 x] ++ caps) w' fun e w'' => e = .returned (.bool (P x)) ∧ Drawn0 w' w'') :
    Calls Try.prog 37 #[.slice A0 l0.length c0, .func (.func K) #[] caps] w fun e w' => e = .returned (.int .i64 (idxOf P l0)) ∧ Drawn0 w w' := by
  have HF := Aside0.mk hf
  have HR := Aside0.mk hr0
  have hcall : ∀ (args : Array Value) (W : World), (callFunc K args).run Try.prog W = .ok (.enter K args) W := fun args W => enters_ hK hname hb args W
  clear hf hr0 hK hname hb
  go_enter Try.func37, Try.ntmps37
  go_wp2
  go_loopw [8] (fun i wr => ∃ k : Nat, k ≤ l0.length ∧ i = .int .i64 k ∧ Aside0 (∀ j (hj : j < l0.length), j < k → P l0[j] = false) ∧ Drawn0 w wr) (fun i _ => l0.length - (intOf i).toNat)
  case atStart => exact ⟨0, Nat.zero_le _, rfl, ⟨fun j hj h => absurd h (by omega)⟩, Drawn0.refl _⟩
  case round =>
    obtain ⟨k, hk, rfl, HJ, ⟨nq, rfl⟩⟩ := hrel
    by_cases hlt : k < l0.length
    · obtain ⟨ad, e, hx⟩ := Kd.at_int HR.out (k : Int) (by omega) (by omega)
      cases e
      simp only [Int.toNat_natCast] at hx
      have HD := Aside0.mk (rd_get l0 k hlt)
      have hm : l0[k] ∈ l0 := List.getElem_mem hlt
      cases hP : P l0[k] with
      | true =>
        have HP := Aside0.mk hP
        clear hP
        go_wp2_with (rw [HD.out]; refine (HF.out l0[k] _ hm).mono ?_; rintro e w' ⟨rfl, ⟨nd, rfl⟩⟩; rw [HP.out])
        go_ret
        exact ⟨by rw [idxOf_hit P l0 k hlt HJ.out HP.out]; rfl, by repeat (first | exact Drawn0.refl _ | apply Drawn0.step)⟩
      | false =>
        have HP := Aside0.mk hP
        clear hP
        go_wp2_with (rw [HD.out]; refine (HF.out l0[k] _ hm).mono ?_; rintro e w' ⟨rfl, ⟨nd, rfl⟩⟩; rw [HP.out])
        go_roundw
        case rel =>
          refine ⟨k + 1, by omega, by go_num, ⟨fun j hj h => ?_⟩, by repeat (first | exact Drawn0.refl _ | apply Drawn0.step)⟩
          rcases Nat.lt_or_ge j k with h' | h'
          · exact HJ.out j hj h'
          · obtain rfl : j = k := by omega
            exact HP.out
        case measure => simp [intOf]; omega
    · go_wp2
      go_ret
      exact ⟨by rw [idxOf_miss P l0 fun j hj => HJ.out j hj (by omega)]; rfl, by repeat (first | exact Drawn0.refl _ | apply Drawn0.step)⟩

end Go.Proofs.Ytpmogeekhkcfjaa.Print
