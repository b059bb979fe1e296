/- FnExactPackSprites answers true for every sprites and width: the program's PackSprites is the reference's, and its result is memory of its own. No condition. -/
import Derived.Test.YtbpeonhhlfadcaaPrintHhandSort
import Derived.Test.YtbpeonhhlfadcaaPrintHimplPackSprites
import Derived.Test.YtbpeonhhlfadcaaPrintHspectallFirst
import Derived.Test.YtbpeonhhlfadcaaPrintHx0
import Derived.Test.YtbpeonhhlfadcaaPrintHx1
import Derived.Test.YtbpeonhhlfadcaaPrintLFnExactPackSprites
import Derived.Test.YtbpeonhhlfadcaaPrintR0x0
import Derived.Test.YtbpeonhhlfadcaaPrintR1x3
import Derived.Test.YtbpeonhhlfadcaaPrintR1x4
import Derived.Test.YtbpeonhhlfadcaaPrintR1x5
import Derived.Test.YtbpeonhhlfadcaaPrintR3x0
namespace Go.Proofs.Ytbpeonhhlfadcaa.Pure
open Go.RowKit Go.Proofs.Ytbpeonhhlfadcaa.Print Go.Proofs.YtbpeonhhlfadcaaW.PrintWords Go.Proofs.YtbpeonhhlfadcaaW.PrintLast Go.Proofs.YtbpeonhhlfadcaaW.PrintMore
set_option linter.unusedVariables false
set_option linter.unusedSimpArgs false
theorem drop_cons_ {α : Type} (l : List α) (k : Nat) (h : k < l.length) : l.drop k = l[k] :: l.drop (k + 1) := List.drop_eq_getElem_cons h
theorem laws_eqBoxS.refl_l0 (a : List S31) (hl : a.length ≤ 9223372036854775806) (d : Nat) : ∀ i, i ≤ a.length → a.length - i = d →
    Ev (fun k => laws_eqBoxS.l0 k a a (i : Int)) true := by
  induction d with
  | zero =>
    intro i hi hd
    exact Ev.step (fun k => by simp only [laws_eqBoxS.l0]; rfl) (evNeg (by omega) (evRet rfl))
  | succ d ih =>
    intro i hi hd
    have hw : wrap64 ((i : Int) + 1) = ((i + 1 : Nat) : Int) := wrapSucc i (by omega)
    have := ih (i + 1) (by omega) (by omega)
    refine Ev.step (f := fun k => laws_eqBoxS.l0 k a a ((i + 1 : Nat) : Int)) (fun k => ?_) this
    simp only [laws_eqBoxS.l0, hw, laws_eqBox.f]
    rw [if_pos (by omega), if_pos (by omega), if_pos (by omega)]
    simp
theorem laws_eqBoxS.refl (a : List S31) (hl : a.length ≤ 9223372036854775806) : Ev (fun k => laws_eqBoxS.f k a a) true := by
  unfold laws_eqBoxS.f
  exact evPos rfl (laws_eqBoxS.refl_l0 a hl a.length 0 (by omega) (by omega))
/-- What is left behind the marking of boxes. -/
def marksX (m : Int) : Nat → List S31
  | 0 => []
  | n + 1 => ⟨m, m + 1, m + 2, m + 3⟩ :: marksX (m + 4) n
theorem marksX_length (m : Int) (n : Nat) : (marksX m n).length = n := by
  induction n generalizing m with
  | zero => rfl
  | succ n ih => simp [marksX, ih]
theorem marksX_snoc (m : Int) (n : Nat) : marksX m (n + 1) = marksX m n ++ [⟨m + 4 * n, m + 4 * n + 1, m + 4 * n + 2, m + 4 * n + 3⟩] := by
  induction n generalizing m with
  | zero => simp [marksX]
  | succ n ih =>
    rw [marksX, ih (m + 4), marksX]
    simp
    omega
theorem marksX_get (m : Int) (n i : Nat) (h : i < n) (h' : i < (marksX m n).length) : (marksX m n)[i] = ⟨m + 4 * i, m + 4 * i + 1, m + 4 * i + 2, m + 4 * i + 3⟩ := by
  induction n generalizing m i with
  | zero => omega
  | succ n ih =>
    cases i with
    | zero => simp [marksX]
    | succ i =>
      simp only [marksX, List.getElem_cons_succ]
      rw [ih (m + 4) i (by omega) (by rw [marksX_length]; omega)]
      simp
      omega
theorem rdBxN (l : List S31) (k : Nat) (h : k < l.length) : rd_T31 l (k : Int) = l[k] := by
  simp [rd_T31, List.getD_eq_getElem?_getD, List.getElem?_eq_getElem h]
theorem rdBx_set (l : List S31) (k : Nat) (h : k < l.length) (x : S31) : rd_T31 (l.set k x) (k : Int) = x := by
  rw [rdBxN _ k (by simpa using h)]
  simp
theorem laws_markBoxS.ev_l0 (l : List S31) (m : Int) (hm : 0 ≤ m) (hl : m + 4 * l.length ≤ 9223372036854775800) (d : Nat) : ∀ i, i ≤ l.length → l.length - i = d →
    Ev (fun k => laws_markBoxS.l0 k (marksX m i ++ l.drop i) (m + 4 * i) (i : Int)) (m + 4 * l.length, marksX m l.length) := by
  induction d with
  | zero =>
    intro i hi hd
    have hil : i = l.length := by omega
    refine Ev.step (fun k => by simp only [laws_markBoxS.l0]; rfl) (evNeg (by simp [marksX_length]; omega) (evRet ?_))
    rw [hil]
    simp
  | succ d ih =>
    intro i hi hd
    have hw : wrap64 ((i : Int) + 1) = ((i + 1 : Nat) : Int) := wrapSucc i (by omega)
    have hw1 : wrap64 (m + 4 * i + 1) = m + 4 * i + 1 := wrapIn (by omega) (by omega)
    have hw2 : wrap64 (m + 4 * i + 1 + 1) = m + 4 * i + 2 := by rw [wrapIn (by omega) (by omega)]; omega
    have hw3 : wrap64 (m + 4 * i + 2 + 1) = m + 4 * i + 3 := by rw [wrapIn (by omega) (by omega)]; omega
    have hw4 : wrap64 (m + 4 * i + 3 + 1) = m + 4 * ((i + 1 : Nat) : Int) := by rw [wrapIn (by omega) (by omega)]; omega
    have hlen : i < (marksX m i ++ l.drop i).length := by simp [marksX_length]; omega
    have hs : (marksX m i ++ l.drop i).set i (⟨m + 4 * i, m + 4 * i + 1, m + 4 * i + 2, m + 4 * i + 3⟩ : S31) = marksX m (i + 1) ++ l.drop (i + 1) := by
      rw [List.set_append_right _ _ (by rw [marksX_length]; omega), marksX_length, Nat.sub_self, drop_cons_ l i (by omega), List.set_cons_zero, marksX_snoc, List.append_assoc]
      rfl
    have := ih (i + 1) (by omega) (by omega)
    refine Ev.step (f := fun k => laws_markBoxS.l0 k (marksX m (i + 1) ++ l.drop (i + 1)) (m + 4 * ((i + 1 : Nat) : Int)) ((i + 1 : Nat) : Int)) (fun k => ?_) this
    simp only [laws_markBoxS.l0, hw, hw1, hw2, hw3, hw4]
    rw [if_pos (by omega), if_pos (by omega)]
    simp only [Option.bind_some, Int.toNat_natCast, List.set_set, rdBx_set _ i hlen, hs]
theorem laws_markBoxS.ev (l : List S31) (m : Int) (hm : 0 ≤ m) (hl : m + 4 * l.length ≤ 9223372036854775800) : Ev (fun k => laws_markBoxS.f k l m) (m + 4 * l.length, marksX m l.length) := by
  have := laws_markBoxS.ev_l0 l m hm hl l.length 0 (by omega) (by omega)
  unfold laws_markBoxS.f
  simpa [marksX] using this
theorem laws_heldBoxS.ev_l0 (n : Nat) (m : Int) (hm : 0 ≤ m) (hl : m + 4 * n ≤ 9223372036854775800) (d : Nat) : ∀ i, i ≤ n → n - i = d →
    Ev (fun k => laws_heldBoxS.l0 k (marksX m n) (m + 4 * i) (i : Int)) (m + 4 * n) := by
  induction d with
  | zero =>
    intro i hi hd
    have hil : i = n := by omega
    refine Ev.step (fun k => by simp only [laws_heldBoxS.l0]; rfl) (evNeg (by rw [marksX_length]; omega) (evRet ?_))
    rw [hil]
  | succ d ih =>
    intro i hi hd
    have hw : wrap64 ((i : Int) + 1) = ((i + 1 : Nat) : Int) := wrapSucc i (by omega)
    have hw1 : wrap64 (m + 4 * i + 1) = m + 4 * i + 1 := wrapIn (by omega) (by omega)
    have hw2 : wrap64 (m + 4 * i + 1 + 1) = m + 4 * i + 2 := by rw [wrapIn (by omega) (by omega)]; omega
    have hw3 : wrap64 (m + 4 * i + 2 + 1) = m + 4 * i + 3 := by rw [wrapIn (by omega) (by omega)]; omega
    have hw4 : wrap64 (m + 4 * i + 3 + 1) = m + 4 * ((i + 1 : Nat) : Int) := by rw [wrapIn (by omega) (by omega)]; omega
    have := ih (i + 1) (by omega) (by omega)
    refine Ev.step (f := fun k => laws_heldBoxS.l0 k (marksX m n) (m + 4 * ((i + 1 : Nat) : Int)) ((i + 1 : Nat) : Int)) (fun k => ?_) this
    simp only [laws_heldBoxS.l0, hw, hw1, hw2, hw3, hw4]
    rw [if_pos (by rw [marksX_length]; omega), if_pos (by omega), rdBxN _ i (by rw [marksX_length]; omega), marksX_get m n i (by omega)]
    simp
theorem laws_heldBoxS.ev (n : Nat) (m : Int) (hm : 0 ≤ m) (hl : m + 4 * n ≤ 9223372036854775800) : Ev (fun k => laws_heldBoxS.f k (marksX m n) m) (m + 4 * n) := by
  have := laws_heldBoxS.ev_l0 n m hm hl n 0 (by omega) (by omega)
  unfold laws_heldBoxS.f
  simpa using this

theorem laws_eqSizeS.refl_l0 (a : List S33) (hl : a.length ≤ 9223372036854775806) (d : Nat) : ∀ i, i ≤ a.length → a.length - i = d →
    Ev (fun k => laws_eqSizeS.l0 k a a (i : Int)) true := by
  induction d with
  | zero =>
    intro i hi hd
    exact Ev.step (fun k => by simp only [laws_eqSizeS.l0]; rfl) (evNeg (by omega) (evRet rfl))
  | succ d ih =>
    intro i hi hd
    have hw : wrap64 ((i : Int) + 1) = ((i + 1 : Nat) : Int) := wrapSucc i (by omega)
    have := ih (i + 1) (by omega) (by omega)
    refine Ev.step (f := fun k => laws_eqSizeS.l0 k a a ((i + 1 : Nat) : Int)) (fun k => ?_) this
    simp only [laws_eqSizeS.l0, hw, laws_eqSize.f]
    rw [if_pos (by omega), if_pos (by omega), if_pos (by omega)]
    simp
theorem laws_eqSizeS.refl (a : List S33) (hl : a.length ≤ 9223372036854775806) : Ev (fun k => laws_eqSizeS.f k a a) true := by
  unfold laws_eqSizeS.f
  exact evPos rfl (laws_eqSizeS.refl_l0 a hl a.length 0 (by omega) (by omega))
/-- What is left behind the marking of sizes. -/
def marksZ (m : Int) : Nat → List S33
  | 0 => []
  | n + 1 => ⟨m, m + 1⟩ :: marksZ (m + 2) n
theorem marksZ_length (m : Int) (n : Nat) : (marksZ m n).length = n := by
  induction n generalizing m with
  | zero => rfl
  | succ n ih => simp [marksZ, ih]
theorem marksZ_snoc (m : Int) (n : Nat) : marksZ m (n + 1) = marksZ m n ++ [⟨m + 2 * n, m + 2 * n + 1⟩] := by
  induction n generalizing m with
  | zero => simp [marksZ]
  | succ n ih =>
    rw [marksZ, ih (m + 2), marksZ]
    simp
    omega
theorem rdSzN (l : List S33) (k : Nat) (h : k < l.length) : rd_T33 l (k : Int) = l[k] := by
  simp [rd_T33, List.getD_eq_getElem?_getD, List.getElem?_eq_getElem h]
theorem rdSz_set (l : List S33) (k : Nat) (h : k < l.length) (x : S33) : rd_T33 (l.set k x) (k : Int) = x := by
  rw [rdSzN _ k (by simpa using h)]
  simp
theorem laws_markSizeS.ev_l0 (l : List S33) (m : Int) (hm : 0 ≤ m) (hl : m + 2 * l.length ≤ 9223372036854775800) (d : Nat) : ∀ i, i ≤ l.length → l.length - i = d →
    Ev (fun k => laws_markSizeS.l0 k (marksZ m i ++ l.drop i) (m + 2 * i) (i : Int)) (m + 2 * l.length, marksZ m l.length) := by
  induction d with
  | zero =>
    intro i hi hd
    have hil : i = l.length := by omega
    refine Ev.step (fun k => by simp only [laws_markSizeS.l0]; rfl) (evNeg (by simp [marksZ_length]; omega) (evRet ?_))
    rw [hil]
    simp
  | succ d ih =>
    intro i hi hd
    have hw : wrap64 ((i : Int) + 1) = ((i + 1 : Nat) : Int) := wrapSucc i (by omega)
    have hw1 : wrap64 (m + 2 * i + 1) = m + 2 * i + 1 := wrapIn (by omega) (by omega)
    have hw3 : wrap64 (m + 2 * i + 1 + 1) = m + 2 * ((i + 1 : Nat) : Int) := by rw [wrapIn (by omega) (by omega)]; omega
    have hlen : i < (marksZ m i ++ l.drop i).length := by simp [marksZ_length]; omega
    have hs : (marksZ m i ++ l.drop i).set i (⟨m + 2 * i, m + 2 * i + 1⟩ : S33) = marksZ m (i + 1) ++ l.drop (i + 1) := by
      rw [List.set_append_right _ _ (by rw [marksZ_length]; omega), marksZ_length, Nat.sub_self, drop_cons_ l i (by omega), List.set_cons_zero, marksZ_snoc, List.append_assoc]
      rfl
    have := ih (i + 1) (by omega) (by omega)
    refine Ev.step (f := fun k => laws_markSizeS.l0 k (marksZ m (i + 1) ++ l.drop (i + 1)) (m + 2 * ((i + 1 : Nat) : Int)) ((i + 1 : Nat) : Int)) (fun k => ?_) this
    simp only [laws_markSizeS.l0, hw, hw1, hw3]
    rw [if_pos (by omega), if_pos (by omega)]
    simp only [Option.bind_some, Int.toNat_natCast, List.set_set, rdSz_set _ i hlen, hs]
theorem laws_markSizeS.ev (l : List S33) (m : Int) (hm : 0 ≤ m) (hl : m + 2 * l.length ≤ 9223372036854775800) : Ev (fun k => laws_markSizeS.f k l m) (m + 2 * l.length, marksZ m l.length) := by
  have := laws_markSizeS.ev_l0 l m hm hl l.length 0 (by omega) (by omega)
  unfold laws_markSizeS.f
  simpa [marksZ] using this

theorem inRange_val (a lo hi : Int) : spec_inRange.f a lo hi = some (decide (lo ≤ a ∧ a ≤ hi)) := by
  unfold spec_inRange.f
  split
  · rename_i h; simp [h]
  · rename_i h; simp [h]

theorem spec_validSprites.ev_l0 (l : List S33) (wd : Int) (hl : l.length ≤ 9223372036854775806) (d : Nat) : ∀ i, i ≤ l.length → l.length - i = d → (∀ s ∈ l.take i, 1 ≤ s.f0 ∧ s.f0 ≤ wd ∧ 1 ≤ s.f1 ∧ s.f1 ≤ 16) →
    Ev (fun k => spec_validSprites.l0 k l wd (i : Int)) (decide (SprOk l wd)) := by
  induction d with
  | zero =>
    intro i hi hd hp
    rw [List.take_of_length_le (by omega)] at hp
    refine Ev.step (fun k => by simp only [spec_validSprites.l0, inRange_val]; rfl) (evNeg (by omega) ?_)
    refine evFix rfl ?_
    by_cases h : 1 ≤ wd ∧ wd ≤ 64
    · refine evPos (by simpa using h) (evRet ?_)
      refine decide_eq_decide.2 ?_
      unfold SprOk
      exact ⟨fun hh => ⟨by omega, h.1, h.2, hp⟩, fun hh => by have := hh.1; omega⟩
    · refine evNeg (by simpa using h) (evRet ?_)
      refine (decide_eq_false ?_).symm
      exact fun hh => h ⟨hh.2.1, hh.2.2.1⟩
  | succ d ih =>
    intro i hi hd hp
    have hlt : i < l.length := by omega
    have hr := rdSize_get l i hlt
    refine Ev.step (fun k => by simp only [spec_validSprites.l0, inRange_val, hr, wrapSucc i (by omega)]; rfl) (evPos (by omega) (evPos (by omega) (evFix rfl ?_)))
    by_cases h0 : 1 ≤ l[i].f0 ∧ l[i].f0 ≤ wd
    · refine evPos (by simpa using h0) (evFix rfl ?_)
      by_cases h1 : 1 ≤ l[i].f1 ∧ l[i].f1 ≤ 16
      · refine evPos (by simpa using h1) (ih (i + 1) (by omega) (by omega) fun s hs => ?_)
        rw [List.take_succ_eq_append_getElem hlt, List.mem_append, List.mem_singleton] at hs
        rcases hs with hs | rfl
        · exact hp s hs
        · exact ⟨h0.1, h0.2, h1.1, h1.2⟩
      · refine evNeg (by simpa using h1) (evRet ?_)
        refine (decide_eq_false ?_).symm
        exact fun hh => h1 (hh.2.2.2 _ (List.getElem_mem hlt)).2.2
    · refine evNeg (by simpa using h0) (evRet ?_)
      refine (decide_eq_false ?_).symm
      exact fun hh => h0 ⟨(hh.2.2.2 _ (List.getElem_mem hlt)).1, (hh.2.2.2 _ (List.getElem_mem hlt)).2.1⟩
theorem spec_validSprites.ev (l : List S33) (wd : Int) (hl : l.length ≤ 9223372036854775806) : Ev (fun k => spec_validSprites.f k l wd) (decide (SprOk l wd)) := by
  unfold spec_validSprites.f
  exact spec_validSprites.ev_l0 l wd hl l.length 0 (by omega) (by omega) (by simp)
/-- The tops and the ends of shelves. -/
def topsOf (sh : List S31) : List Int := sh.map fun x => x.f1
def endsOf (sh : List S31) : List Int := sh.map fun x => x.f2
theorem topsOf_rd (sh : List S31) (j : Nat) (h : j < sh.length) : rd (topsOf sh) (j : Int) = sh[j].f1 := by simp [rd, topsOf, List.getD_eq_getElem?_getD, h]
theorem endsOf_rd (sh : List S31) (j : Nat) (h : j < sh.length) : rd (endsOf sh) (j : Int) = sh[j].f2 := by simp [rd, endsOf, List.getD_eq_getElem?_getD, h]
/-- The first shelf with room: the walk from shelf j on. -/
theorem spec_PackSprites.ev_l1 (l : List S33) (wd : Int) (x6 : List S31) (sh : List S31) (ht : Int) (o : List Int) (i : Int) (s0 s1 : Int) (J : Nat) (hJ : sh.findIdx (fun x => decide (x.f2 + s0 ≤ wd)) = J) (hwd : wd ≤ 64) (hs : 1 ≤ s0 ∧ s0 ≤ 64) (hb : ∀ x ∈ sh, 0 ≤ x.f2 ∧ x.f2 ≤ wd) (hsl : sh.length ≤ 12) (r : List S31 × Int)
    (h : Ev (fun k => spec_PackSprites.l1 k l wd x6 (topsOf sh) (endsOf sh) ht o i (J : Int) s0 s1) r) (d : Nat) : ∀ j, j ≤ J → J - j = d → Ev (fun k => spec_PackSprites.l1 k l wd x6 (topsOf sh) (endsOf sh) ht o i (j : Int) s0 s1) r := by
  have hJl : J ≤ sh.length := by rw [← hJ]; exact List.findIdx_le_length
  have hel : (endsOf sh).length = sh.length := List.length_map _
  induction d with
  | zero =>
    intro j hj hd
    obtain rfl : j = J := by omega
    exact h
  | succ d ih =>
    intro j hj hd
    have hlt : j < sh.length := by omega
    have hbj := hb _ (List.getElem_mem hlt)
    have hno : ¬ (sh[j].f2 + s0 ≤ wd) := by
      have := List.not_of_lt_findIdx (p := fun x => decide (x.f2 + s0 ≤ wd)) (xs := sh) (i := j) (by omega)
      simpa using this
    have hw : wrap64 (sh[j].f2 + s0) = sh[j].f2 + s0 := wrapIn (by omega) (by omega)
    refine Ev.step (fun k => by simp only [spec_PackSprites.l1, endsOf_rd sh j hlt, hw, wrapSucc j (by omega)]; rfl) (evPos (by omega) (evPos (by omega) (evPos (by omega) ?_)))
    exact ih (j + 1) (by omega) (by omega)
theorem topsOf_set (sh : List S31) (j : Nat) (h : j < sh.length) (b : S31) (hb : b.f1 = sh[j].f1) : topsOf (sh.set j b) = topsOf sh := by
  unfold topsOf
  rw [List.map_set, hb]
  refine List.ext_getElem (by simp) fun q h1 h2 => ?_
  rw [List.getElem_set]
  split
  · rename_i h; subst h; simp
  · rfl
theorem endsOf_set (sh : List S31) (j : Nat) (b : S31) : endsOf (sh.set j b) = (endsOf sh).set j b.f2 := by
  unfold endsOf
  rw [List.map_set]
theorem spec_PackSprites.ev_l0 (l : List S33) (wd : Int) (hok : SprOk l wd) (d : Nat) : ∀ k, k ≤ l.length → l.length - k = d →
    Ev (fun q => spec_PackSprites.l0 q l wd (packTo l wd k).1 (topsOf (packTo l wd k).2.1) (endsOf (packTo l wd k).2.1) (packTo l wd k).2.2 (intsN (orderL (hOf l) l.length)) (k : Int)) ((packTo l wd l.length).1, (packTo l wd l.length).2.2) := by
  have hol := orderL_length (hOf l) l.length
  have hil : (intsN (orderL (hOf l) l.length)).length = l.length := by rw [intsN_length, hol]
  have hn := hok.1
  induction d with
  | zero =>
    intro k hk hd
    obtain rfl : k = l.length := by omega
    exact Ev.step (fun q => by simp only [spec_PackSprites.l0]; rfl) (evNeg (by omega) (evRet rfl))
  | succ d ih =>
    intro k hk hd
    have hlt : k < l.length := by omega
    have hko : k < (orderL (hOf l) l.length).length := by omega
    have hnext := ih (k + 1) (by omega) (by omega)
    have hps := packTo_succ l wd k hko
    have hil2 : (orderL (hOf l) l.length)[k] < l.length := orderL_lt _ _ _ (List.getElem_mem hko)
    have hrd := intsN_rd (orderL (hOf l) l.length) k hko
    rw [List.getD_eq_getElem?_getD, List.getElem?_eq_getElem hko, Option.getD_some] at hrd
    have hinv := packTo_inv l wd hok k hk
    rw [hps] at hnext
    generalize (orderL (hOf l) l.length)[k] = i at hnext hil2 hrd
    generalize intsN (orderL (hOf l) l.length) = o at hnext hil hrd ⊢
    generalize hst : packTo l wd k = st at hnext hinv ⊢
    obtain ⟨bx, sh, ht⟩ := st
    obtain ⟨v1, v2, v3, v4, v5⟩ := hinv
    dsimp only at v1 v2 v3 v4 v5 hnext ⊢
    have hsz := hok.2.2.2 _ (List.getElem_mem hil2)
    have hrs := rdSize_get l i hil2
    have hwd := hok.2.2.1
    unfold packStep at hnext
    rw [hrs] at hnext
    generalize l[i] = s at hsz hrs hnext
    obtain ⟨s0, s1⟩ := s
    dsimp only at hsz hnext
    have htl : (topsOf sh).length = sh.length := List.length_map _
    have hel : (endsOf sh).length = sh.length := List.length_map _
    generalize hJ : sh.findIdx (fun x => decide (x.f2 + s0 ≤ wd)) = J at hnext
    refine Ev.step (fun q => by simp only [spec_PackSprites.l0, hrd, hrs]; rfl) (evPos (by omega) (evPos (by omega) (evPos (by omega) (evPos (by omega) ?_))))
    refine spec_PackSprites.ev_l1 l wd bx sh ht o (k : Int) s0 s1 J hJ hwd (by omega) (fun x hx => ⟨(v2 x hx).1, (v2 x hx).2.1⟩) (by omega) _ ?_ J 0 (by omega) (by omega)
    by_cases hjl : J < sh.length
    · rw [if_pos hjl, rdBox_get sh J hjl] at hnext
      dsimp only at hnext
      have hbj := v2 _ (List.getElem_mem hjl)
      have hyes : sh[J].f2 + s0 ≤ wd := by
        have := List.findIdx_getElem (p := fun x => decide (x.f2 + s0 ≤ wd)) (xs := sh) (w := by omega)
        subst hJ
        simpa using this
      have hw : wrap64 (sh[J].f2 + s0) = sh[J].f2 + s0 := wrapIn (by omega) (by omega)
      rw [topsOf_set sh J hjl ⟨sh[J].f0, sh[J].f1, sh[J].f2 + s0, sh[J].f3⟩ rfl, endsOf_set] at hnext
      dsimp only at hnext
      refine Ev.step (fun q => by simp only [spec_PackSprites.l1, endsOf_rd sh J hjl, topsOf_rd sh J hjl, hw, hrd, Int.toNat_natCast, wrapSucc k (by omega)]; rfl) (evPos (by omega) (evPos (by omega) (evNeg (by omega) (evNeg (by omega) ?_))))
      exact evPos (by omega) (evPos (by omega) (evPos (by omega) (evPos (by omega) (evPos (by omega) hnext))))
    · have hJl : J = sh.length := by
        have : J ≤ sh.length := by rw [← hJ]; exact List.findIdx_le_length
        omega
      rw [if_neg hjl] at hnext
      dsimp only at hnext
      have e1 : topsOf (sh ++ [⟨0, ht, s0, 0⟩]) = topsOf sh ++ [ht] := by unfold topsOf; rw [List.map_append]; rfl
      have e2 : endsOf (sh ++ [⟨0, ht, s0, 0⟩]) = (endsOf sh ++ [0]).set J s0 := by
        unfold endsOf
        rw [List.map_append, List.set_append_right _ _ (by simp; omega), List.length_map, hJl, Nat.sub_self]
        rfl
      rw [e1, e2] at hnext
      have r1 : rd (endsOf sh ++ [0]) (J : Int) = 0 := by simp [rd, List.getD_eq_getElem?_getD, List.getElem?_append_right, hel, hJl]
      have r2 : rd (topsOf sh ++ [ht]) (J : Int) = ht := by simp [rd, List.getD_eq_getElem?_getD, List.getElem?_append_right, htl, hJl]
      have hw0 : wrap64 (0 + s0) = s0 := by rw [wrapIn (by omega) (by omega)]; omega
      have hw1 : wrap64 (ht + s1) = ht + s1 := wrapIn (by omega) (by omega)
      refine Ev.step (fun q => by simp only [spec_PackSprites.l1, hrd]; rfl) (evNeg (by omega) (evPos (by omega) (evPos (by omega) (evFix rfl (evPos (by omega) (evFix rfl ?_))))))
      refine evPos (by omega) (evPos (by omega) (evPos (by omega) (evPos (by rw [List.length_append, List.length_singleton]; omega) (evPos (by rw [List.length_append, List.length_singleton]; omega) (evPos (by omega) (evPos (by omega) ?_))))))
      simp only [r1, r2, hw0, hw1, Int.toNat_natCast, wrapSucc k (show k < 9223372036854775807 by omega)]
      exact hnext
theorem spec_PackSprites.ev (l : List S33) (wd : Int) (hl : l.length ≤ 9223372036854775806) : Ev (fun k => spec_PackSprites.f k l wd) (if SprOk l wd then ((packTo l wd l.length).1, (packTo l wd l.length).2.2) else ([], -1)) := by
  unfold spec_PackSprites.f
  refine evBind (spec_validSprites.ev l wd hl) ?_
  by_cases hok : SprOk l wd
  · have hn := hok.1
    have ht : spec_tallFirst.f l = some (intsN (orderL (hOf l) l.length)) := by unfold spec_tallFirst.f; rw [if_pos hn]
    rw [if_pos hok]
    refine evPos (by simpa using hok) (evPos (by omega) (evPos (by omega) (evFix ht ?_)))
    have h := spec_PackSprites.ev_l0 l wd hok l.length 0 (by omega) (by omega)
    rw [packTo_zero] at h
    simpa [topsOf, endsOf] using h
  · rw [if_neg hok]
    exact evNeg (by simpa using hok) (evRet rfl)

def toSz (r : S55) : S33 := ⟨r.f0, r.f1⟩
theorem laws_szSizeS.val (l : List S55) (m : Int) (hm0 : 0 ≤ m) (hm1 : m ≤ 1048576) (hl : l.length ≤ maxLen) : laws_szSizeS.f l m = some (if m < l.length then -1 else m - l.length) := by
  simp only [maxLen] at hl
  unfold laws_szSizeS.f
  rw [wrapIn (x := m - (l.length : Int)) (by omega) (by omega)]
  by_cases h : m < l.length
  · rw [if_pos (by omega), if_pos h]
  · rw [if_neg (by omega), if_neg h]
theorem rdSzL (l : List S55) (k : Nat) (h : k < l.length) : rd_T55 l (k : Int) = l[k] := by
  simp [rd_T55, List.getD_eq_getElem?_getD, List.getElem?_eq_getElem h]
theorem laws_toSizeS.ev_l0 (l : List S55) (hl : l.length ≤ 9223372036854775806) (d : Nat) : ∀ i, i ≤ l.length → l.length - i = d →
    Ev (fun k => laws_toSizeS.l0 k l ((l.take i).map toSz ++ List.replicate (l.length - i) z33) (i : Int)) (l.map toSz) := by
  induction d with
  | zero =>
    intro i hi hd
    refine Ev.step (fun k => by simp only [laws_toSizeS.l0]; rfl) (evNeg (by omega) (evRet ?_))
    rw [List.take_of_length_le (by omega), hd]
    simp
  | succ d ih =>
    intro i hi hd
    have hlt : i < l.length := by omega
    have hr := rdSzL l i hlt
    have ht : laws_toSize.f l[i].f0 l[i].f1 = some (l[i].f0, l[i].f1) := rfl
    have hs : ((l.take i).map toSz ++ List.replicate (l.length - i) z33).set (i : Int).toNat ⟨l[i].f0, l[i].f1⟩ = (l.take (i + 1)).map toSz ++ List.replicate (l.length - (i + 1)) z33 := by
      have e : ((l.take i).map toSz).length = i := by simp; omega
      rw [Int.toNat_natCast, List.set_append_right _ _ (by omega), e, Nat.sub_self, show l.length - i = (l.length - (i + 1)) + 1 by omega, List.replicate_succ, List.set_cons_zero, List.take_succ_eq_append_getElem hlt, List.map_append, List.append_assoc]
      rfl
    refine Ev.step (fun k => by simp only [laws_toSizeS.l0, hr, ht, Option.bind_some, hs, wrapSucc i (by omega)]; rfl) (evPos (by omega) (evPos (by omega) (evPos (by simp; omega) ?_)))
    exact ih (i + 1) (by omega) (by omega)
theorem laws_toSizeS.ev (l : List S55) (hl : l.length ≤ 1048576) : Ev (fun k => laws_toSizeS.f k l) (l.map toSz) := by
  have h := laws_toSizeS.ev_l0 l (by omega) l.length 0 (by omega) (by omega)
  unfold laws_toSizeS.f
  refine evPos (by omega) (evPos (by omega) ?_)
  rw [Int.toNat_natCast]
  simpa using h

theorem FnExactPackSprites : laws_FnExactPackSprites.Pure := by
  intro l wd hl _ _
  refine Ev.rounds ?_
  unfold laws_FnExactPackSprites.f
  refine evFix (laws_szSizeS.val l 1048576 (by omega) (by omega) hl) ?_
  by_cases hlt : (1048576 : Int) < l.length
  · rw [if_pos hlt]
    exact evPos (by omega) (evRet rfl)
  rw [if_neg hlt]
  have hb : l.length ≤ 1048576 := by omega
  refine evNeg (by omega) ?_
  have h1 := laws_toSizeS.ev l hb
  have hlm : (l.map toSz).length = l.length := List.length_map _
  have h2 := spec_PackSprites.ev (l.map toSz) wd (by omega)
  have h3 : impl_PackSprites.f (l.map toSz) wd = some (if SprOk (l.map toSz) wd then ((packTo (l.map toSz) wd (l.map toSz).length).1, (packTo (l.map toSz) wd (l.map toSz).length).2.2) else ([], -1)) := by
    unfold impl_PackSprites.f
    rw [if_pos (by omega)]
  have hr : (if SprOk (l.map toSz) wd then ((packTo (l.map toSz) wd (l.map toSz).length).1, (packTo (l.map toSz) wd (l.map toSz).length).2.2) else (([] : List S31), (-1 : Int))).1.length ≤ 1048576 := by
    split
    · rename_i hok
      have := (packTo_inv (l.map toSz) wd hok (l.map toSz).length (Nat.le_refl _)).1
      dsimp only
      omega
    · simp
  generalize (if SprOk (l.map toSz) wd then ((packTo (l.map toSz) wd (l.map toSz).length).1, (packTo (l.map toSz) wd (l.map toSz).length).2.2) else (([] : List S31), (-1 : Int))) = r at *
  obtain ⟨rb, rh⟩ := r
  simp only [] at hr
  generalize l.map toSz = lq at *
  have heq := laws_eqBoxS.refl rb (by omega)
  have heql := laws_eqSizeS.refl lq (by omega)
  have hm1 := laws_markSizeS.ev lq 1 (by omega) (by omega)
  have hm2 := laws_markBoxS.ev rb 1 (by omega) (by omega)
  have hh := laws_heldBoxS.ev rb.length 1 (by omega) (by omega)
  have hj : (rh != rh) = false := by simp
  repeat' first
    | exact evRet rfl
    | refine evFix (by assumption) ?_
    | refine evBind (by assumption) ?_
    | refine evPos (by first | omega | with_reducible rfl | exact True.intro) ?_
    | refine evNeg (by first | omega | (simp only [hj]; simp; done) | (simp only []; omega) | simp) ?_
    | refine Ev.step (fun k => by simp only [laws_FnExactPackSprites.j0]; rfl) ?_
    | refine Ev.step (fun k => by simp only [laws_FnExactPackSprites.j1]; rfl) ?_
    | refine Ev.step (fun k => by simp only [laws_FnExactPackSprites.j2]; rfl) ?_

end Go.Proofs.Ytbpeonhhlfadcaa.Pure
