-- laid by hp.py (a program of this work over the kit's print), with contracts by hand for what the print does not take
import Derived.Test.YtbpeonhhlfadcaaPrint0
import Derived.Test.YtbpeonhhlfadcaaPrintHx0
namespace Go.Proofs.Ytbpeonhhlfadcaa.Print
open Go.RowKit Go.Proofs.YtbpeonhhlfadcaaW.PrintWords Go.Proofs.YtbpeonhhlfadcaaW.PrintLast Go.Proofs.YtbpeonhhlfadcaaW.PrintMore
attribute [local go_sem] max2_int min2_int max_two min_two max_three min_three max_four min_four   -- for this text's walks alone
set_option linter.unusedVariables false
set_option linter.unusedSimpArgs false

--SNIP hand_Sort
/-! ### Stable sorting, of few -/
/-- Where sprite i goes: behind the last one that is not lower. -/
def atPos (h : Nat → Int) (out : List Nat) (i : Nat) : Nat → Nat
  | 0 => 0
  | k + 1 => if h (out.getD k 0) < h i then atPos h out i k else k + 1
def insL (h : Nat → Int) (out : List Nat) (i : Nat) : List Nat := out.take (atPos h out i out.length) ++ i :: out.drop (atPos h out i out.length)
/-- The first n sprites, the higher ones first. -/
def orderL (h : Nat → Int) : Nat → List Nat
  | 0 => []
  | n + 1 => insL h (orderL h n) n
theorem atPos_le (h : Nat → Int) (out : List Nat) (i k : Nat) : atPos h out i k ≤ k := by
  induction k with
  | zero => exact Nat.le_refl _
  | succ k ih =>
    unfold atPos
    split
    · omega
    · exact Nat.le_refl _
theorem insL_perm (h : Nat → Int) (out : List Nat) (i : Nat) : (insL h out i).Perm (i :: out) := by
  unfold insL
  refine List.perm_middle.trans ?_
  rw [List.take_append_drop]
theorem orderL_perm (h : Nat → Int) (n : Nat) : (orderL h n).Perm (List.range n) := by
  induction n with
  | zero => exact List.Perm.refl _
  | succ n ih =>
    rw [List.range_succ]
    exact (insL_perm h _ n).trans ((ih.cons n).trans (List.perm_append_singleton n (List.range n)).symm)
theorem orderL_length (h : Nat → Int) (n : Nat) : (orderL h n).length = n := by
  rw [(orderL_perm h n).length_eq, List.length_range]
theorem orderL_lt (h : Nat → Int) (n : Nat) (x : Nat) (hx : x ∈ orderL h n) : x < n := by
  have := (orderL_perm h n).mem_iff.1 hx
  simpa using this
/-- Sprite i on its way through those that are in order. -/
def midL (out : List Nat) (i : Nat) (rest : List Nat) (j : Nat) : List Nat := out.take j ++ i :: (out.drop j ++ rest)
theorem midL_length (out : List Nat) (i : Nat) (rest : List Nat) (j : Nat) : (midL out i rest j).length = out.length + 1 + rest.length := by
  unfold midL
  have := congrArg List.length (List.take_append_drop j out)
  rw [List.length_append] at this
  rw [List.length_append, List.length_cons, List.length_append]
  omega
theorem midL_succ (out : List Nat) (i : Nat) (rest : List Nat) (j : Nat) (hj : j < out.length) : midL out i rest (j + 1) = out.take j ++ out[j] :: i :: (out.drop (j + 1) ++ rest) := by
  unfold midL
  rw [List.take_succ_eq_append_getElem hj, List.append_assoc]
  rfl
theorem midL_at (out : List Nat) (i : Nat) (rest : List Nat) (j : Nat) (hj : j < out.length) : midL out i rest j = out.take j ++ i :: out[j] :: (out.drop (j + 1) ++ rest) := by
  unfold midL
  rw [List.drop_eq_getElem_cons hj]
  rfl
theorem midL_swap (out : List Nat) (i : Nat) (rest : List Nat) (j : Nat) (hj : j < out.length) : ((midL out i rest (j + 1)).set (j + 1) out[j]).set j i = midL out i rest j := by
  have hl : (out.take j).length = j := by rw [List.length_take]; omega
  rw [midL_succ out i rest j hj, midL_at out i rest j hj, List.set_append_right _ _ (by omega), hl, show j + 1 - j = 1 by omega, List.set_append_right _ _ (by omega), hl, Nat.sub_self]
  rfl
theorem midL_own (out : List Nat) (i : Nat) (rest : List Nat) (j : Nat) (hj : j ≤ out.length) : (midL out i rest j).getD j 0 = i := by
  have hl : (out.take j).length = j := by rw [List.length_take]; omega
  unfold midL
  rw [List.getD_eq_getElem?_getD, List.getElem?_append_right (by omega), hl, Nat.sub_self]
  rfl
theorem midL_left (out : List Nat) (i : Nat) (rest : List Nat) (j : Nat) (hj : j < out.length) : (midL out i rest (j + 1)).getD j 0 = out[j] := by
  have hl : (out.take j).length = j := by rw [List.length_take]; omega
  rw [midL_succ out i rest j hj, List.getD_eq_getElem?_getD, List.getElem?_append_right (by omega), hl, Nat.sub_self]
  rfl
theorem midL_start (out : List Nat) (i : Nat) (rest : List Nat) : out ++ i :: rest = midL out i rest out.length := by
  unfold midL
  rw [List.take_length, List.drop_length]
  rfl
theorem midL_end (h : Nat → Int) (out : List Nat) (i : Nat) (rest : List Nat) (j : Nat) (hj : atPos h out i out.length = j) : midL out i rest j = insL h out i ++ rest := by
  unfold midL insL
  rw [hj, List.append_assoc]
  rfl
/-- The sprites, the first n of them in order. -/
def seqL (h : Nat → Int) (n q : Nat) : List Nat := orderL h q ++ List.range' q (n - q)
theorem seqL_start (h : Nat → Int) (n : Nat) (hn : 1 ≤ n) : seqL h n 1 = List.range n := by
  obtain ⟨m, rfl⟩ : ∃ m, n = m + 1 := ⟨n - 1, by omega⟩
  unfold seqL
  rw [List.range_eq_range', List.range'_succ, Nat.add_sub_cancel]
  rfl
theorem seqL_mid (h : Nat → Int) (n q : Nat) (hq : q < n) : seqL h n q = midL (orderL h q) q (List.range' (q + 1) (n - (q + 1))) q := by
  have e : seqL h n q = orderL h q ++ q :: List.range' (q + 1) (n - (q + 1)) := by
    unfold seqL
    rw [show n - q = (n - (q + 1)) + 1 by omega, List.range'_succ]
  rw [e, midL_start, orderL_length]
theorem seqL_next (h : Nat → Int) (n q j : Nat) (hj : atPos h (orderL h q) q q = j) : midL (orderL h q) q (List.range' (q + 1) (n - (q + 1))) j = seqL h n (q + 1) := by
  rw [midL_end h (orderL h q) q _ j (by rw [orderL_length]; exact hj)]
  rfl
theorem seqL_end (h : Nat → Int) (n : Nat) : seqL h n n = orderL h n := by
  unfold seqL
  rw [Nat.sub_self]
  simp
def intsN (l : List Nat) : List Int := l.map fun x : Nat => (x : Int)
theorem intsN_length (l : List Nat) : (intsN l).length = l.length := List.length_map _
theorem intsN_rd (l : List Nat) (j : Nat) (hj : j < l.length) : rd (intsN l) (j : Int) = ((l.getD j 0 : Nat) : Int) := by
  simp [rd, intsN, List.getD_eq_getElem?_getD, List.getElem?_map, List.getElem?_eq_getElem hj]
theorem intsN_set (l : List Nat) (j x : Nat) : (intsN l).set j (x : Int) = intsN (l.set j x) := by
  unfold intsN
  rw [List.map_set]
set_option maxHeartbeats 8000000 in
set_option maxRecDepth 100000 in
theorem sort_deep (K : FuncId) (fn : Func) (caps : Array Value) (h : Nat → Int) (hK : Try.prog.funcs[K]? = some fn) (hname : (fn.name == "runtime.NumGoroutine") = false) (hb : fn.body.isSome = true) (B n : Nat) (hn : n ≤ 12) (hh : ∀ x, x < n → 1 ≤ h x ∧ h x ≤ 16) (hn0 : 1 ≤ n) (g cap : Nat) (w : World) (hBw : B ≤ w.heap.size) (hr : Kd.R (Kd.int .i64) 3 w B (fun _ => True) (.slice (some ⟨g, 0, none⟩) n cap) (intsN (List.range n))) (hf : ∀ (x y : Nat) (w' : World), x < n → y < n → Below B w w' → Calls Try.prog K (#[.int .i64 x, .int .i64 y] ++ caps) w' fun e w'' => e = .returned (.int .i64 (h y - h x)) ∧ Below w'.heap.size w' w'') :
    Calls Try.prog 38 #[.slice (some ⟨g, 0, none⟩) n cap, .int .i64 0, .int .i64 n, .func (.func K) #[] caps] w fun e w' => e = .returned (.tuple #[]) ∧ Kd.R (Kd.int .i64) 3 w' B (fun _ => True) (.slice (some ⟨g, 0, none⟩) n cap) (intsN (orderL h n)) ∧ Below B w w' := by
  have HF := Aside0.mk hf
  have HH := Aside0.mk hh
  have hcall : ∀ (args : Array Value) (W : World), (callFunc K args).run Try.prog W = .ok (.enter K args) W := fun args W => enters_ hK hname hb args W
  have HC := Aside0.mk hcall
  have HO0 : Aside0 (Kd.R (Kd.int .i64) 3 w B (fun _ => True) (.slice (some ⟨g, 0, none⟩) n cap) (intsN (seqL h n 1))) := ⟨by rw [seqL_start h n hn0]; exact hr⟩
  have HB0 : Aside0 (Below B w w) := ⟨Below.refl _ _⟩
  have HBW := Aside0.mk hBw
  clear hf hK hname hb hcall hr hh hBw
  go_enter Try.func38, Try.ntmps38
  go_wp2
  go_loopw [8] (fun i wr => ∃ q : Nat, 1 ≤ q ∧ q ≤ n ∧ i = .int .i64 q ∧ Aside0 (Kd.R (Kd.int .i64) 3 wr B (fun _ => True) (.slice (some ⟨g, 0, none⟩) n cap) (intsN (seqL h n q))) ∧ Aside0 (Below B w wr)) (fun i _ => n - (intOf i).toNat)
  case atStart => exact ⟨1, by omega, hn0, rfl, HO0, HB0⟩
  case round =>
    clear HO0 HB0
    obtain ⟨q, hq0, hq, rfl, HO, HB⟩ := hrel
    by_cases hlt : q < n
    · have hdq : decide (q < n) = true := decide_eq_true hlt
      obtain ⟨wo, rfl⟩ : ∃ wo : World, wo = wr := ⟨_, rfl⟩
      go_wp2
      go_loopw [9] (fun i wr => ∃ j : Nat, j ≤ q ∧ i = .int .i64 j ∧ Aside0 (atPos h (orderL h q) q j = atPos h (orderL h q) q q) ∧ Aside0 (Kd.R (Kd.int .i64) 3 wr B (fun _ => True) (.slice (some ⟨g, 0, none⟩) n cap) (intsN (midL (orderL h q) q (List.range' (q + 1) (n - (q + 1))) j))) ∧ Aside0 (Below B w wr)) (fun i _ => (intOf i).toNat)
      case atStart => exact ⟨q, by omega, rfl, ⟨rfl⟩, ⟨by rw [← seqL_mid h n q hlt]; exact HO.out⟩, HB⟩
      case round =>
        clear HO HB
        obtain ⟨j, hj, rfl, HA, HO, HB⟩ := hrel
        by_cases hj0 : j = 0
        · subst hj0
          have hd0 : decide ((0 : Int) < ((0 : Nat) : Int)) = false := decide_eq_false (by omega)
          have hd1 : decide (0 < 0) = false := decide_eq_false (by omega)
          go_wp2
          go_quiet (fail)
          go_wp2
          go_roundw
          case rel => exact ⟨q + 1, by omega, by omega, by go_num, ⟨by rw [← seqL_next h n q 0 HA.out.symm]; exact Kd.R_drewN HO.out _⟩, ⟨pw_below_drewN HB.out _⟩⟩
          case measure => simp [intOf]; omega
        · obtain ⟨j, rfl⟩ : ∃ i, j = i + 1 := ⟨j - 1, by omega⟩
          have hd0 : decide ((0 : Int) < ((j + 1 : Nat) : Int)) = true := decide_eq_true (by omega)
          have hd1 : decide (0 < j + 1) = true := decide_eq_true (by omega)
          have hol := orderL_length h q
          have hjo : j < (orderL h q).length := by omega
          have hml := midL_length (orderL h q) q (List.range' (q + 1) (n - (q + 1))) (j + 1)
          rw [List.length_range'] at hml
          have e1 := intsN_rd (midL (orderL h q) q (List.range' (q + 1) (n - (q + 1))) (j + 1)) (j + 1) (by omega)
          rw [midL_own _ _ _ _ (by omega)] at e1
          have e0 := intsN_rd (midL (orderL h q) q (List.range' (q + 1) (n - (q + 1))) (j + 1)) j (by omega)
          rw [midL_left _ _ _ _ hjo] at e0
          have hx1' := Kd.R_celln 0 HO.out ((j + 1 : Nat) : Int) (by omega) (by omega)
          have hx0' := Kd.R_celln 0 HO.out (j : Int) (by omega) (by omega)
          rw [Int.toNat_natCast] at hx1' hx0'
          have hx1 : wr.cell? ⟨g, j + 1, none⟩ = some (.int .i64 (q : Int)) := by rw [← e1]; exact hx1'.1
          have hx0 : wr.cell? ⟨g, j, none⟩ = some (.int .i64 (((orderL h q)[j] : Nat) : Int)) := by rw [← e0]; exact hx0'.1
          have HSW := Aside0.mk (midL_swap (orderL h q) q (List.range' (q + 1) (n - (q + 1))) j hjo)
          have HQ := Aside0.mk hlt
          have HU : Aside0 ((orderL h q)[j] < n) := ⟨by have := orderL_lt h q _ (List.getElem_mem hjo); omega⟩
          have HST : Aside0 (atPos h (orderL h q) q (j + 1) = if h (orderL h q)[j] < h q then atPos h (orderL h q) q j else j + 1) := ⟨by
            show (if h ((orderL h q).getD j 0) < h q then atPos h (orderL h q) q j else j + 1) = _
            rw [List.getD_eq_getElem?_getD, List.getElem?_eq_getElem hjo]
            rfl⟩
          have hhq := HH.out q hlt
          have hhu := HH.out _ HU.out
          clear e1 e0 hx1' hx0' hml
          generalize hu_ : (orderL h q)[j] = u at hx0 HSW HU HST hhu
          clear hu_
          have gs : IntKind.i64.wrap (((j + 1 : Nat) : Int) - 1) = (j : Int) := by rw [show ((j + 1 : Nat) : Int) - 1 = (j : Int) by omega]; exact IntWalk.i64_in _ (by omega)
          have gs2 : IntKind.i64.wrap ((j : Int) + 1 - 1) = (j : Int) := by rw [show (j : Int) + 1 - 1 = (j : Int) by omega]; exact IntWalk.i64_in _ (by omega)
          have gs3 : IntKind.i64.wrap (j : Int) = (j : Int) := IntWalk.i64_in _ (by omega)
          have pp1 : ((j : Int) + 1 < (n : Int)) = True := eq_true (by omega)
          have pp0 : (0 ≤ (j : Int) + 1) = True := eq_true (by omega)
          have pp2 : ((j : Int) < (n : Int)) = True := eq_true (by omega)
          have pp3 : (j < n) = True := eq_true (by omega)
          have pp4 : (j + 1 < n) = True := eq_true (by omega)
          go_wp2_with fail
          have HB1 := Aside0.mk (below_drew HB.out)
          have HO1 := Aside0.mk (Kd.R_drew HO.out)
          have hx1_1 : wr.drew.cell? ⟨g, j + 1, none⟩ = some (.int .i64 (q : Int)) := hx1
          have hx0_1 : wr.drew.cell? ⟨g, j, none⟩ = some (.int .i64 (u : Int)) := hx0
          refine start_ (n := 17) (S := fun w' => w'.cell? ⟨g, j + 1, none⟩ = some (.int .i64 (q : Int)) ∧ w'.cell? ⟨g, j, none⟩ = some (.int .i64 (u : Int))) (ds := []) #[false, false, false, false, false, false, false, false, false, false, false, false, false, false, false, false, false] (by kernel_rfl) rfl rfl ⟨hx1_1, hx0_1⟩ (fun hHeld => ?_)
          clear HB HO hx1 hx0
          generalize wr.drew = w1 at HB1 HO1 hx1_1 hx0_1 hHeld ⊢
          refine pure_ (i := 0) (N := some 18) (v := ?_) (a' := ?_) #[true, false, false, false, false, false, false, false, false, false, false, false, false, false, false, false, false] rfl rfl (by kernel_rfl) (fun _ _ _ h => h) (Or.inl ⟨by rfl, ?_⟩) ?_ ?_
          rotate_left
          · intro w'
            go_simp
            with_reducible rfl
          rotate_left
          · simp only [Act.put, List.setIfInBounds_toArray, List.set_cons_zero, List.set_cons_succ]
            rfl
          refine pure_ (i := 1) (N := some 19) (v := ?_) (a' := ?_) #[true, true, false, false, false, false, false, false, false, false, false, false, false, false, false, false, false] rfl rfl (by kernel_rfl) (fun _ _ _ h => h) (Or.inl ⟨by rfl, ?_⟩) ?_ ?_
          rotate_left
          · intro w'
            go_simp
            with_reducible rfl
          rotate_left
          · simp only [Act.put, List.setIfInBounds_toArray, List.set_cons_zero, List.set_cons_succ]
            rfl
          refine pure_ (i := 2) (N := some 20) (v := ?_) (a' := ?_) #[true, true, true, false, false, false, false, false, false, false, false, false, false, false, false, false, false] rfl rfl (by kernel_rfl) (fun _ _ _ h => h) (Or.inl ⟨by rfl, ?_⟩) ?_ ?_
          rotate_left
          · intro w'
            go_simp
            with_reducible rfl
          rotate_left
          · simp only [Act.put, List.setIfInBounds_toArray, List.set_cons_zero, List.set_cons_succ]
            rfl
          refine pure_ (i := 3) (N := some 21) (v := ?_) (a' := ?_) #[true, true, true, true, false, false, false, false, false, false, false, false, false, false, false, false, false] rfl rfl (by kernel_rfl) (fun _ _ _ h => h) (Or.inl ⟨by rfl, ?_⟩) ?_ ?_
          rotate_left
          · intro w'
            go_simp
            with_reducible rfl
          rotate_left
          · simp only [Act.put, List.setIfInBounds_toArray, List.set_cons_zero, List.set_cons_succ]
            rfl
          refine pure_ (i := 4) (N := some 22) (v := ?_) (a' := ?_) #[true, true, true, true, true, false, false, false, false, false, false, false, false, false, false, false, false] rfl rfl (by kernel_rfl) (fun _ _ _ h => h) (Or.inl ⟨by rfl, ?_⟩) ?_ ?_
          rotate_left
          · intro w'
            go_simp
            with_reducible rfl
          rotate_left
          · simp only [Act.put, List.setIfInBounds_toArray, List.set_cons_zero, List.set_cons_succ]
            rfl
          refine pure_ (i := 5) (N := some 23) (v := ?_) (a' := ?_) #[true, true, true, true, true, true, false, false, false, false, false, false, false, false, false, false, false] rfl rfl (by kernel_rfl) (fun _ _ _ h => h) (Or.inl ⟨by rfl, ?_⟩) ?_ ?_
          rotate_left
          · intro w'
            go_simp
            with_reducible rfl
          rotate_left
          · simp only [Act.put, List.setIfInBounds_toArray, List.set_cons_zero, List.set_cons_succ]
            rfl
          refine pure_ (i := 6) (N := some 24) (v := ?_) (a' := ?_) #[true, true, true, true, true, true, true, false, false, false, false, false, false, false, false, false, false] rfl rfl (by kernel_rfl) (fun _ _ _ h => h) (Or.inl ⟨by rfl, ?_⟩) ?_ ?_
          rotate_left
          · intro w'
            go_simp
            with_reducible rfl
          rotate_left
          · simp only [Act.put, List.setIfInBounds_toArray, List.set_cons_zero, List.set_cons_succ]
            rfl
          refine pure_ (i := 7) (N := some 25) (v := ?_) (a' := ?_) #[true, true, true, true, true, true, true, true, false, false, false, false, false, false, false, false, false] rfl rfl (by kernel_rfl) (fun _ _ _ h => h) (Or.inl ⟨by rfl, ?_⟩) ?_ ?_
          rotate_left
          · intro w'
            go_simp
            with_reducible rfl
          rotate_left
          · simp only [Act.put, List.setIfInBounds_toArray, List.set_cons_zero, List.set_cons_succ]
            rfl
          refine take_ (i := 8) (N := some 26) (v := ?_) (a' := ?_) #[true, true, true, true, true, true, true, true, true, false, false, false, false, false, false, false, false] rfl rfl (by kernel_rfl) (fun _ _ _ h => h) (Or.inl ⟨by rfl, ?_⟩) hHeld ?_ ?_
          rotate_left
          · rintro w' ⟨s0, s1⟩
            go_simp
            with_reducible rfl
          rotate_left
          · simp only [Act.put, List.setIfInBounds_toArray, List.set_cons_zero, List.set_cons_succ]
            rfl
          refine pure_ (i := 9) (N := some 27) (v := ?_) (a' := ?_) #[true, true, true, true, true, true, true, true, true, true, false, false, false, false, false, false, false] rfl rfl (by kernel_rfl) (fun _ _ _ h => h) (Or.inl ⟨by rfl, ?_⟩) ?_ ?_
          rotate_left
          · intro w'
            go_simp
            with_reducible rfl
          rotate_left
          · simp only [Act.put, List.setIfInBounds_toArray, List.set_cons_zero, List.set_cons_succ]
            rfl
          refine pure_ (i := 10) (N := some 28) (v := ?_) (a' := ?_) #[true, true, true, true, true, true, true, true, true, true, true, false, false, false, false, false, false] rfl rfl (by kernel_rfl) (fun _ _ _ h => h) (Or.inl ⟨by rfl, ?_⟩) ?_ ?_
          rotate_left
          · intro w'
            go_simp
            with_reducible rfl
          rotate_left
          · simp only [Act.put, List.setIfInBounds_toArray, List.set_cons_zero, List.set_cons_succ]
            rfl
          refine pure_ (i := 11) (N := some 29) (v := ?_) (a' := ?_) #[true, true, true, true, true, true, true, true, true, true, true, true, false, false, false, false, false] rfl rfl (by kernel_rfl) (fun _ _ _ h => h) (Or.inl ⟨by rfl, ?_⟩) ?_ ?_
          rotate_left
          · intro w'
            go_simp
            with_reducible rfl
          rotate_left
          · simp only [Act.put, List.setIfInBounds_toArray, List.set_cons_zero, List.set_cons_succ]
            rfl
          refine pure_ (i := 12) (N := some 30) (v := ?_) (a' := ?_) #[true, true, true, true, true, true, true, true, true, true, true, true, true, false, false, false, false] rfl rfl (by kernel_rfl) (fun _ _ _ h => h) (Or.inl ⟨by rfl, ?_⟩) ?_ ?_
          rotate_left
          · intro w'
            go_simp
            with_reducible rfl
          rotate_left
          · simp only [Act.put, List.setIfInBounds_toArray, List.set_cons_zero, List.set_cons_succ]
            rfl
          refine take_ (i := 13) (N := some 31) (v := ?_) (a' := ?_) #[true, true, true, true, true, true, true, true, true, true, true, true, true, true, false, false, false] rfl rfl (by kernel_rfl) (fun _ _ _ h => h) (Or.inl ⟨by rfl, ?_⟩) hHeld ?_ ?_
          rotate_left
          · rintro w' ⟨s0, s1⟩
            go_simp
            with_reducible rfl
          rotate_left
          · simp only [Act.put, List.setIfInBounds_toArray, List.set_cons_zero, List.set_cons_succ]
            rfl
          refine one_ (i := 14) (N := some 32) #[true, true, true, true, true, true, true, true, true, true, true, true, true, true, true, false, false] rfl rfl (by kernel_rfl) (by decide) (fun K' hK' => ?_)
          refine goesF_ HC.out (#[.int .i64 q, .int .i64 u] ++ caps) (by rfl) rfl rfl (by rfl) (by simp only [List.map_toArray, List.map_cons, List.map_nil]; rfl) ?_
          refine (HF.out q u _ HQ.out HU.out HB1.out).mono ?_
          rintro e w2 ⟨rfl, hb⟩
          refine ⟨_, rfl, ?_⟩
          have HB2 := Aside0.mk (below_then HB1.out (Nat.le_trans HBW.out HB1.out.size) hb)
          have HO2 := Aside0.mk (Kd.R_below HO1.out hb)
          have hx1_2 := pw_cell_below hb hx1_1
          have hx0_2 := pw_cell_below hb hx0_1
          clear hb HB1 HO1 hx1_1 hx0_1
          refine hK'.out _ _ ⟨hx1_2, hx0_2⟩ (fun hHeld => ?_)
          clear hK' K'
          refine norm_ (a' := ?_) ?_ ?_
          rotate_left
          · show Act.put _ (some 32) _ = _
            simp only [Act.put, List.setIfInBounds_toArray, List.set_cons_zero, List.set_cons_succ]
            rfl
          refine pure_ (i := 15) (N := some 33) (v := ?_) (a' := ?_) #[true, true, true, true, true, true, true, true, true, true, true, true, true, true, true, true, false] rfl rfl (by kernel_rfl) (fun _ _ _ h => h) (Or.inl ⟨by rfl, ?_⟩) ?_ ?_
          rotate_left
          · intro w'
            go_simp
            with_reducible rfl
          rotate_left
          · simp only [Act.put, List.setIfInBounds_toArray, List.set_cons_zero, List.set_cons_succ]
            rfl
          refine pure_ (i := 16) (N := some 34) (v := ?_) (a' := ?_) #[true, true, true, true, true, true, true, true, true, true, true, true, true, true, true, true, true] rfl rfl (by kernel_rfl) (fun _ _ _ h => h) (Or.inl ⟨by rfl, ?_⟩) ?_ ?_
          rotate_left
          · intro w'
            go_simp
            with_reducible rfl
          rotate_left
          · simp only [Act.put, List.setIfInBounds_toArray, List.set_cons_zero, List.set_cons_succ]
            rfl
          refine done_ (by kernel_rfl) ?_
          clear hHeld
          have hz1 := Kd.R_celln 0 HO2.out ((j + 1 : Nat) : Int) (by omega) (by omega)
          have hz0 := Kd.R_celln 0 HO2.out (j : Int) (by omega) (by omega)
          rw [Int.toNat_natCast] at hz1 hz0
          have hf1 := hz1.2
          have hf0 := hz0.2
          clear hz1 hz0
          by_cases hlt2 : h u < h q
          · have hd2 : decide (h u - h q < 0) = true := decide_eq_true (by omega)
            have HA2 : Aside0 (atPos h (orderL h q) q j = atPos h (orderL h q) q q) := ⟨by rw [← HA.out, HST.out, if_pos hlt2]⟩
            clear HA HST
            go_wp2_with fail
            go_region
            all_goals
              have hP1 := (Kd.R_putg HO2.out ((j + 1 : Nat) : Int) (u : Int)).1
              rw [Int.toNat_natCast, intsN_set] at hP1
              have hP2 := (Kd.R_putg hP1 (j : Int) (q : Int)).1
              rw [Int.toNat_natCast, intsN_set, HSW.out] at hP2
              have HO3 := Aside0.mk (Kd.R_drew hP2)
              have HB3 := Aside0.mk (below_drew ((HB2.out.setCell (p := ⟨g, j + 1, none⟩) (Kd.R_base HO2.out g rfl) (.int .i64 (u : Int))).setCell (p := ⟨g, j, none⟩) (Kd.R_base HO2.out g rfl) (.int .i64 (q : Int))))
              clear hP1 hP2 hx1_2 hx0_2 hf1 hf0 HO2 HB2
              go_wp2
              go_roundw
              case rel => exact ⟨j, by omega, by go_num, HA2, HO3, HB3⟩
              case measure => (simp [intOf]; try omega)
          · have hd2 : decide (h u - h q < 0) = false := decide_eq_false (by omega)
            have HA2 : Aside0 (atPos h (orderL h q) q q = j + 1) := ⟨by rw [← HA.out, HST.out, if_neg hlt2]⟩
            go_wp2
            go_roundw
            case rel => exact ⟨q + 1, by omega, by omega, by go_num, ⟨by rw [← seqL_next h n q (j + 1) HA2.out]; exact HO2.out⟩, HB2⟩
            case measure => simp [intOf]; omega
    · obtain rfl : q = n := by omega
      have hdq : decide (q < q) = false := decide_eq_false (by omega)
      go_wp2
      first | go_end0 | ((try simp only [Exit.inBlock, Exit.then]); refine bodyPost_ret (results_none rfl _ _ _) rfl ?_)
      exact ⟨rfl, by rw [← seqL_end]; exact HO.out, HB.out⟩
set_option maxHeartbeats 8000000 in
set_option maxRecDepth 100000 in
theorem sort_any (K : FuncId) (fn : Func) (caps : Array Value) (h : Nat → Int) (hK : Try.prog.funcs[K]? = some fn) (hname : (fn.name == "runtime.NumGoroutine") = false) (hb : fn.body.isSome = true) (B n : Nat) (hn : n ≤ 12) (hh : ∀ x, x < n → 1 ≤ h x ∧ h x ≤ 16) (v : Value) (w : World) (hBw : B ≤ w.heap.size) (hr : Kd.R (Kd.int .i64) 3 w B (fun _ => True) v (intsN (List.range n))) (hf : ∀ (x y : Nat) (w' : World), x < n → y < n → Below B w w' → Calls Try.prog K (#[.int .i64 x, .int .i64 y] ++ caps) w' fun e w'' => e = .returned (.int .i64 (h y - h x)) ∧ Below w'.heap.size w' w'') :
    Calls Try.prog 38 #[v, .int .i64 0, .int .i64 n, .func (.func K) #[] caps] w fun e w' => e = .returned (.tuple #[]) ∧ Kd.R (Kd.int .i64) 3 w' B (fun _ => True) v (intsN (orderL h n)) ∧ Below B w w' := by
  by_cases hn0 : n = 0
  · subst hn0
    have HO := Aside0.mk hr
    have HB : Aside0 (Below B w w) := ⟨Below.refl _ _⟩
    obtain ⟨A, c, rfl⟩ := Kd.R_slice hr
    clear hf hK hname hb hr hh hBw
    go_enter Try.func38, Try.ntmps38
    go_wp2
    go_loopw [8] (fun i wr => i = .int .i64 1 ∧ wr = w) (fun _ _ => 0)
    case atStart => exact ⟨rfl, rfl⟩
    case round =>
      obtain ⟨rfl, rfl⟩ := hrel
      go_wp2
      first | go_end0 | ((try simp only [Exit.inBlock, Exit.then]); refine bodyPost_ret (results_none rfl _ _ _) rfl ?_)
      exact ⟨rfl, HO.out, HB.out⟩
  · obtain ⟨g, cap, e, _⟩ := Kd.R_form hr (by rw [intsN_length, List.length_range]; omega)
    rw [intsN_length, List.length_range] at e
    subst e
    exact sort_deep K fn caps h hK hname hb B n hn hh (by omega) g cap w hBw hr hf
set_option maxHeartbeats 8000000 in
set_option maxRecDepth 100000 in
theorem stable_any (K : FuncId) (fn : Func) (caps : Array Value) (h : Nat → Int) (hK : Try.prog.funcs[K]? = some fn) (hname : (fn.name == "runtime.NumGoroutine") = false) (hb : fn.body.isSome = true) (B n : Nat) (hn : n ≤ 12) (hh : ∀ x, x < n → 1 ≤ h x ∧ h x ≤ 16) (v : Value) (w : World) (hBw : B ≤ w.heap.size) (hr : Kd.R (Kd.int .i64) 3 w B (fun _ => True) v (intsN (List.range n))) (hf : ∀ (x y : Nat) (w' : World), x < n → y < n → Below B w w' → Calls Try.prog K (#[.int .i64 x, .int .i64 y] ++ caps) w' fun e w'' => e = .returned (.int .i64 (h y - h x)) ∧ Below w'.heap.size w' w'') :
    Calls Try.prog 34 #[v, .int .i64 n, .func (.func K) #[] caps] w fun e w' => e = .returned (.tuple #[]) ∧ Kd.R (Kd.int .i64) 3 w' B (fun _ => True) v (intsN (orderL h n)) ∧ Below B w w' := by
  have HS := Aside0.mk (sort_any K fn caps h hK hname hb B n hn hh v w hBw hr hf)
  have hd1 : decide ((20 : Int) ≤ (n : Int)) = false := decide_eq_false (by omega)
  have hd2 : decide ((20 : Int) < (n : Int)) = false := decide_eq_false (by omega)
  have hd3 : decide (20 ≤ n) = false := decide_eq_false (by omega)
  have hd4 : decide (20 < n) = false := decide_eq_false (by omega)
  clear hf hK hname hb hr hh hBw
  go_enter Try.func34, Try.ntmps34
  go_wp2
  go_loopw [7, 8] (fun a b wr => a = .int .i64 0 ∧ b = .int .i64 20 ∧ wr = w) (fun _ _ _ => 0)
  case atStart => exact ⟨rfl, rfl, rfl⟩
  case round =>
    obtain ⟨rfl, rfl, rfl⟩ := hrel
    go_wp2_with (go_at_call 38; refine HS.out.mono ?_; rintro e w1 ⟨rfl, ho, hb⟩; have HO := Aside0.mk ho; have HB := Aside0.mk hb; clear ho hb)
    go_loopw [6] (fun a wr => a = .int .i64 20 ∧ wr = w1) (fun _ _ => 0)
    case atStart => exact ⟨rfl, rfl⟩
    case round =>
      obtain ⟨rfl, rfl⟩ := hrel
      go_wp2
      first | go_end0 | ((try simp only [Exit.inBlock, Exit.then]); refine bodyPost_ret (results_none rfl _ _ _) rfl ?_)
      exact ⟨rfl, HO.out, HB.out⟩
set_option maxHeartbeats 8000000 in
set_option maxRecDepth 100000 in
theorem slices_SortStable.any (K : FuncId) (fn : Func) (caps : Array Value) (h : Nat → Int) (hK : Try.prog.funcs[K]? = some fn) (hname : (fn.name == "runtime.NumGoroutine") = false) (hb : fn.body.isSome = true) (B n : Nat) (hn : n ≤ 12) (hh : ∀ x, x < n → 1 ≤ h x ∧ h x ≤ 16) (v : Value) (w : World) (hBw : B ≤ w.heap.size) (hr : Kd.R (Kd.int .i64) 3 w B (fun _ => True) v (intsN (List.range n))) (hf : ∀ (x y : Nat) (w' : World), x < n → y < n → Below B w w' → Calls Try.prog K (#[.int .i64 x, .int .i64 y] ++ caps) w' fun e w'' => e = .returned (.int .i64 (h y - h x)) ∧ Below w'.heap.size w' w'') :
    Calls Try.prog 21 #[v, .func (.func K) #[] caps] w fun e w' => e = .returned (.tuple #[]) ∧ Kd.R (Kd.int .i64) 3 w' B (fun _ => True) v (intsN (orderL h n)) ∧ Below B w w' := by
  have HS := Aside0.mk (stable_any K fn caps h hK hname hb B n hn hh v w hBw hr hf)
  obtain ⟨A, c, rfl⟩ := Kd.R_slice hr
  rw [intsN_length, List.length_range] at HS ⊢
  clear hf hK hname hb hr hh hBw
  go_enter Try.func21, Try.ntmps21
  go_wp2_with (go_at_call 34; refine HS.out.mono ?_; rintro e w1 ⟨rfl, ho, hb⟩; have HO := Aside0.mk ho; have HB := Aside0.mk hb; clear ho hb)
  first | go_end0 | ((try simp only [Exit.inBlock, Exit.then]); refine bodyPost_ret (results_none rfl _ _ _) rfl ?_)
  exact ⟨rfl, HO.out, HB.out⟩

end Go.Proofs.Ytbpeonhhlfadcaa.Print
