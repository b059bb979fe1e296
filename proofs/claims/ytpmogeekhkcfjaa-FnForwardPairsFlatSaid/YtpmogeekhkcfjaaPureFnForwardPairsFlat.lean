/- FnForwardPairsFlat answers true for every code: ForwardPairs of equal numbers has the number for each pair, and zeros behind. No condition. -/
import Derived.Test.YtpmogeekhkcfjaaPrintHhandWords
import Derived.Test.YtpmogeekhkcfjaaPrintR0x5
import Derived.Test.YtpmogeekhkcfjaaPrintR1x0
import Derived.Test.YtpmogeekhkcfjaaPrintR1x1
import Derived.Test.YtpmogeekhkcfjaaPureLDrawPairs
import Derived.Test.YtpmogeekhkcfjaaPureLInts
import Derived.Test.YtpmogeekhkcfjaaPureLPairs
import Derived.Test.YtpmogeekhkcfjaaPureLeqInts
namespace Go.Proofs.Ytpmogeekhkcfjaa.Pure
open Go.RowKit Go.Proofs.Ytpmogeekhkcfjaa.Print Go.Proofs.YtpmogeekhkcfjaaW.PrintWords Go.Proofs.YtpmogeekhkcfjaaW.PrintLast Go.Proofs.YtpmogeekhkcfjaaW.PrintMore
set_option linter.unusedVariables false
set_option linter.unusedSimpArgs false
theorem flat_means (a : Int) (n : Nat) : meansP (List.replicate n a) = List.replicate ((n + 1) / 2) a := by
  induction n using Nat.strongRecOn with
  | _ n ih =>
    match n with
    | 0 => rfl
    | 1 => simp [meansP]
    | n + 2 =>
      rw [List.replicate_succ, List.replicate_succ, meansP, ih n (by omega), show (n + 2 + 1) / 2 = (n + 1) / 2 + 1 by omega, List.replicate_succ]
      congr 1
      unfold mean2
      omega
theorem flat_gaps (a : Int) (n : Nat) : gapsP (List.replicate n a) = List.replicate (n / 2) 0 := by
  induction n using Nat.strongRecOn with
  | _ n ih =>
    match n with
    | 0 => rfl
    | 1 => simp [gapsP]
    | n + 2 =>
      rw [List.replicate_succ, List.replicate_succ, gapsP, ih n (by omega), show (n + 2) / 2 = n / 2 + 1 by omega, List.replicate_succ]
      congr 1
      omega
theorem laws_FnForwardPairsFlat.ev_l0 (l : List Int) (hl0 : 0 < l.length) (hl1 : l.length ≤ 100) (R : Bool) (hR : Ev (fun k => (impl_ForwardPairs.f k (List.replicate l.length l[0])).bind fun t => laws_FnForwardPairsFlat.l1 k l t 0) R) (d : Nat) : ∀ i, i ≤ l.length → l.length - i = d →
    Ev (fun k => laws_FnForwardPairsFlat.l0 k l (List.replicate i l[0]) (i : Int)) R := by
  induction d with
  | zero =>
    intro i hi hd
    obtain rfl : i = l.length := by omega
    exact Ev.step (fun k => by simp only [laws_FnForwardPairsFlat.l0]; rfl) (evNeg (by omega) hR)
  | succ d ih =>
    intro i hi hd
    have hw : wrap64 ((i : Int) + 1) = ((i + 1 : Nat) : Int) := wrapSucc i (by omega)
    have hr : rd l 0 = l[0] := rdN l 0 hl0
    refine Ev.step (fun k => by simp only [laws_FnForwardPairsFlat.l0, hw, hr]; rfl) (evPos (by omega) (evPos (by omega) (evPos (by simp; omega) ?_)))
    have := ih (i + 1) (by omega) (by omega)
    rwa [List.replicate_succ'] at this
theorem laws_FnForwardPairsFlat.ev_l1 (l : List Int) (hl0 : 0 < l.length) (hl1 : l.length ≤ 100) (d : Nat) : ∀ i, i ≤ l.length → l.length - i = d →
    Ev (fun k => laws_FnForwardPairsFlat.l1 k l (List.replicate ((l.length + 1) / 2) l[0] ++ List.replicate (l.length / 2) 0) (i : Int)) true := by
  have hlen : (List.replicate ((l.length + 1) / 2) l[0] ++ List.replicate (l.length / 2) (0 : Int)).length = l.length := by simp; omega
  have hh : wrap64 (Int.tdiv (wrap64 ((l.length : Int) + 1)) 2) = ((l.length + 1) / 2 : Nat) := by
    rw [wrapIn (x := (l.length : Int) + 1) (by omega) (by omega), Int.tdiv_eq_ediv_of_nonneg (by omega), wrapIn (by omega) (by omega)]
    omega
  induction d with
  | zero =>
    intro i hi hd
    refine Ev.step (fun k => by simp only [laws_FnForwardPairsFlat.l1]; rfl) (evNeg (by omega) (evRet ?_))
    rw [hlen]
    simp
  | succ d ih =>
    intro i hi hd
    have hw : wrap64 ((i : Int) + 1) = ((i + 1 : Nat) : Int) := wrapSucc i (by omega)
    have hr : rd l 0 = l[0] := rdN l 0 hl0
    have hri : rd (List.replicate ((l.length + 1) / 2) l[0] ++ List.replicate (l.length / 2) 0) (i : Int) = if i < (l.length + 1) / 2 then l[0] else 0 := by
      rw [rdN _ i (by omega)]
      split
      · rw [List.getElem_append_left (by simp; omega)]; simp
      · rw [List.getElem_append_right (by simp; omega)]; simp
    refine Ev.step (fun k => by simp only [laws_FnForwardPairsFlat.l1, hw, hr, hh, hri]; rfl) (evPos (by omega) ?_)
    by_cases h : i < (l.length + 1) / 2
    · refine evPos (by omega) (evPos (by omega) (evPos (by omega) (evPos (by rw [if_pos h]) (evNeg (by omega) ?_))))
      exact ih (i + 1) (by omega) (by omega)
    · refine evNeg (by omega) (evPos (by omega) (evPos (by omega) (evPos (by rw [if_neg h]) ?_)))
      exact ih (i + 1) (by omega) (by omega)
theorem FnForwardPairsFlat : laws_FnForwardPairsFlat.Pure := by
  intro l _ _ hw
  refine Ev.rounds ?_
  obtain ⟨r, hr, hlen⟩ := spec_DrawForwardPairs.ev l hw
  have h2 := spec_ForwardPairs.ev r (by omega)
  have h3 := impl_ForwardPairs.ev r
  have heq : Ev (fun k => laws_equalInts.f k (if PairOk r then fwdP r else []) (if PairOk r then fwdP r else [])) true := by
    have := laws_equalInts.ev (if PairOk r then fwdP r else []) (if PairOk r then fwdP r else []) (by split; rw [fwdP_length]; omega; simp)
    simpa using this
  unfold laws_FnForwardPairsFlat.f
  refine evIf (fun _ => evRet rfl) (fun _ => evBind hr (evBind h3 (evBind h2 (evBind heq (evPos rfl ?_)))))
  refine Ev.step (fun k => by simp only [laws_FnForwardPairsFlat.j0]; rfl) (evIf (fun _ => evBind h2 (evBind heq (evRet rfl))) (fun hne => ?_))
  have hok : PairOk r ∧ 0 < r.length := by
    by_cases hp : PairOk r
    · rw [if_pos hp, fwdP_length] at hne
      refine ⟨hp, ?_⟩
      rcases Nat.eq_zero_or_pos r.length with h0 | h0
      · rw [h0] at hne; simp at hne
      · exact h0
    · rw [if_neg hp] at hne
      simp at hne
  obtain ⟨hp, h0⟩ := hok
  have hflat : PairOk (List.replicate r.length r[0]) := ⟨by simp; exact hp.1, fun x hx => by
    have := List.eq_of_mem_replicate hx
    rw [this]
    exact hp.2 _ (List.getElem_mem _)⟩
  have hf := impl_ForwardPairs.ev (List.replicate r.length r[0])
  rw [if_pos hflat] at hf
  unfold fwdP at hf
  rw [flat_means, flat_gaps] at hf
  have := laws_FnForwardPairsFlat.ev_l0 r h0 hlen true (evBind hf (laws_FnForwardPairsFlat.ev_l1 r h0 hlen r.length 0 (by omega) (by omega))) r.length 0 (by omega) (by omega)
  simpa using this

end Go.Proofs.Ytpmogeekhkcfjaa.Pure
