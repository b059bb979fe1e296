/- A part of this work's pure proofs. -/
import Derived.Test.YtifjkllkbciliaaPrintHhandWords
import Derived.Test.YtifjkllkbciliaaPrintR0x1
import Derived.Test.YtifjkllkbciliaaPrintR0x2
import Derived.Test.YtifjkllkbciliaaPureLInts
namespace Go.Proofs.Ytifjkllkbciliaa.Pure
open Go.RowKit Go.Proofs.Ytifjkllkbciliaa.Print Go.Proofs.YtifjkllkbciliaaW.PrintWords Go.Proofs.YtifjkllkbciliaaW.PrintLast Go.Proofs.YtifjkllkbciliaaW.PrintMore
set_option linter.unusedVariables false
set_option linter.unusedSimpArgs false
theorem laws_eqRunS.refl_l0 (a : List S45) (hl : a.length ≤ 9223372036854775806) (d : Nat) : ∀ i, i ≤ a.length → a.length - i = d →
    Ev (fun k => laws_eqRunS.l0 k a a (i : Int)) true := by
  induction d with
  | zero =>
    intro i hi hd
    exact Ev.step (fun k => by simp only [laws_eqRunS.l0]; rfl) (evNeg (by omega) (evRet rfl))
  | succ d ih =>
    intro i hi hd
    have hw : wrap64 ((i : Int) + 1) = ((i + 1 : Nat) : Int) := wrapSucc i (by omega)
    have := ih (i + 1) (by omega) (by omega)
    refine Ev.step (f := fun k => laws_eqRunS.l0 k a a ((i + 1 : Nat) : Int)) (fun k => ?_) this
    simp only [laws_eqRunS.l0, hw, laws_eqRun.f]
    rw [if_pos (by omega), if_pos (by omega), if_pos (by omega)]
    simp
theorem laws_eqRunS.refl (a : List S45) (hl : a.length ≤ 9223372036854775806) : Ev (fun k => laws_eqRunS.f k a a) true := by
  unfold laws_eqRunS.f
  exact evPos rfl (laws_eqRunS.refl_l0 a hl a.length 0 (by omega) (by omega))
/-- What is left behind the marking of runs. -/
def marksR (m : Int) : Nat → List S45
  | 0 => []
  | n + 1 => ⟨m, m + 1, m + 2⟩ :: marksR (m + 3) n
theorem marksR_length (m : Int) (n : Nat) : (marksR m n).length = n := by
  induction n generalizing m with
  | zero => rfl
  | succ n ih => simp [marksR, ih]
theorem marksR_snoc (m : Int) (n : Nat) : marksR m (n + 1) = marksR m n ++ [⟨m + 3 * n, m + 3 * n + 1, m + 3 * n + 2⟩] := by
  induction n generalizing m with
  | zero => simp [marksR]
  | succ n ih =>
    rw [marksR, ih (m + 3), marksR]
    simp
    omega
theorem marksR_get (m : Int) (n i : Nat) (h : i < n) (h' : i < (marksR m n).length) : (marksR m n)[i] = ⟨m + 3 * i, m + 3 * i + 1, m + 3 * i + 2⟩ := by
  induction n generalizing m i with
  | zero => omega
  | succ n ih =>
    cases i with
    | zero => simp [marksR]
    | succ i =>
      simp only [marksR, List.getElem_cons_succ]
      rw [ih (m + 3) i (by omega) (by rw [marksR_length]; omega)]
      simp
      omega
theorem rdRunN (l : List S45) (k : Nat) (h : k < l.length) : rd_T45 l (k : Int) = l[k] := by
  simp [rd_T45, List.getD_eq_getElem?_getD, List.getElem?_eq_getElem h]
theorem rd_set_same (l : List S45) (k : Nat) (h : k < l.length) (x : S45) : rd_T45 (l.set k x) (k : Int) = x := by
  rw [rdRunN _ k (by simpa using h)]
  simp
theorem laws_markRunS.ev_l0 (l : List S45) (m : Int) (hm : 0 ≤ m) (hl : m + 3 * l.length ≤ 9223372036854775800) (d : Nat) : ∀ i, i ≤ l.length → l.length - i = d →
    Ev (fun k => laws_markRunS.l0 k (marksR m i ++ l.drop i) (m + 3 * i) (i : Int)) (m + 3 * l.length, marksR m l.length) := by
  induction d with
  | zero =>
    intro i hi hd
    have hil : i = l.length := by omega
    refine Ev.step (fun k => by simp only [laws_markRunS.l0]; rfl) (evNeg (by simp [marksR_length]; omega) (evRet ?_))
    rw [hil]
    simp
  | succ d ih =>
    intro i hi hd
    have hw : wrap64 ((i : Int) + 1) = ((i + 1 : Nat) : Int) := wrapSucc i (by omega)
    have hw1 : wrap64 (m + 3 * i + 1) = m + 3 * i + 1 := wrapIn (by omega) (by omega)
    have hw2 : wrap64 (m + 3 * i + 1 + 1) = m + 3 * i + 2 := by rw [wrapIn (by omega) (by omega)]; omega
    have hw3 : wrap64 (m + 3 * i + 2 + 1) = m + 3 * ((i + 1 : Nat) : Int) := by rw [wrapIn (by omega) (by omega)]; omega
    have hlen : i < (marksR m i ++ l.drop i).length := by simp [marksR_length]; omega
    have hs : (marksR m i ++ l.drop i).set i (⟨m + 3 * i, m + 3 * i + 1, m + 3 * i + 2⟩ : S45) = marksR m (i + 1) ++ l.drop (i + 1) := by
      rw [List.set_append_right _ _ (by rw [marksR_length]; omega), marksR_length, Nat.sub_self, drop_cons_ l i (by omega), List.set_cons_zero, marksR_snoc, List.append_assoc]
      rfl
    have := ih (i + 1) (by omega) (by omega)
    refine Ev.step (f := fun k => laws_markRunS.l0 k (marksR m (i + 1) ++ l.drop (i + 1)) (m + 3 * ((i + 1 : Nat) : Int)) ((i + 1 : Nat) : Int)) (fun k => ?_) this
    simp only [laws_markRunS.l0, hw, hw1, hw2, hw3]
    rw [if_pos (by omega), if_pos (by omega)]
    simp only [Option.bind_some, Int.toNat_natCast, List.set_set, rd_set_same _ i hlen, hs]
theorem laws_markRunS.ev (l : List S45) (m : Int) (hm : 0 ≤ m) (hl : m + 3 * l.length ≤ 9223372036854775800) : Ev (fun k => laws_markRunS.f k l m) (m + 3 * l.length, marksR m l.length) := by
  have := laws_markRunS.ev_l0 l m hm hl l.length 0 (by omega) (by omega)
  unfold laws_markRunS.f
  simpa [marksR] using this
theorem laws_heldRunS.ev_l0 (n : Nat) (m : Int) (hm : 0 ≤ m) (hl : m + 3 * n ≤ 9223372036854775800) (d : Nat) : ∀ i, i ≤ n → n - i = d →
    Ev (fun k => laws_heldRunS.l0 k (marksR m n) (m + 3 * i) (i : Int)) (m + 3 * n) := by
  induction d with
  | zero =>
    intro i hi hd
    have hil : i = n := by omega
    refine Ev.step (fun k => by simp only [laws_heldRunS.l0]; rfl) (evNeg (by rw [marksR_length]; omega) (evRet ?_))
    rw [hil]
  | succ d ih =>
    intro i hi hd
    have hw : wrap64 ((i : Int) + 1) = ((i + 1 : Nat) : Int) := wrapSucc i (by omega)
    have hw1 : wrap64 (m + 3 * i + 1) = m + 3 * i + 1 := wrapIn (by omega) (by omega)
    have hw2 : wrap64 (m + 3 * i + 1 + 1) = m + 3 * i + 2 := by rw [wrapIn (by omega) (by omega)]; omega
    have hw3 : wrap64 (m + 3 * i + 2 + 1) = m + 3 * ((i + 1 : Nat) : Int) := by rw [wrapIn (by omega) (by omega)]; omega
    have := ih (i + 1) (by omega) (by omega)
    refine Ev.step (f := fun k => laws_heldRunS.l0 k (marksR m n) (m + 3 * ((i + 1 : Nat) : Int)) ((i + 1 : Nat) : Int)) (fun k => ?_) this
    simp only [laws_heldRunS.l0, hw, hw1, hw2, hw3]
    rw [if_pos (by rw [marksR_length]; omega), if_pos (by omega), rdRunN _ i (by rw [marksR_length]; omega), marksR_get m n i (by omega)]
    simp
theorem laws_heldRunS.ev (n : Nat) (m : Int) (hm : 0 ≤ m) (hl : m + 3 * n ≤ 9223372036854775800) : Ev (fun k => laws_heldRunS.f k (marksR m n) m) (m + 3 * n) := by
  have := laws_heldRunS.ev_l0 n m hm hl n 0 (by omega) (by omega)
  unfold laws_heldRunS.f
  simpa using this

end Go.Proofs.Ytifjkllkbciliaa.Pure
