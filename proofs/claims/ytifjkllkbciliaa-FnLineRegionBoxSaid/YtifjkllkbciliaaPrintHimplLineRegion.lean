-- laid by hp.py (a program of this work over the kit's print), with contracts by hand for what the print does not take
import Derived.Test.YtifjkllkbciliaaPrint0
import Derived.Test.YtifjkllkbciliaaPrintHhandGrid
import Derived.Test.YtifjkllkbciliaaPrintHhandRuns
import Derived.Test.YtifjkllkbciliaaPrintHhandWords
import Derived.Test.YtifjkllkbciliaaPrintHimplgridruns
import Derived.Test.YtifjkllkbciliaaPrintR0x4
namespace Go.Proofs.Ytifjkllkbciliaa.Print
open Go.RowKit Go.Proofs.YtifjkllkbciliaaW.PrintWords Go.Proofs.YtifjkllkbciliaaW.PrintLast Go.Proofs.YtifjkllkbciliaaW.PrintMore
attribute [local go_sem] max2_int min2_int max_two min_two max_three min_three max_four min_four   -- for this text's walks alone
set_option linter.unusedVariables false
set_option linter.unusedSimpArgs false

--SNIP impl_LineRegion
/-! ### impl_LineRegion: function 25, by hand -/
def absI (a : Int) : Int := if a < 0 then -a else a
/-- How far the line goes. -/
def lineN (x0 y0 x1 y1 : Int) : Int := mx (absI (x1 - x0)) (absI (y1 - y0))
/-- Where it is behind j of n steps, on one axis. -/
def lineAt (a d n : Int) (j : Nat) : Int := a + (2 * ((j : Int) * d) + n) / (2 * n)
def linePix (x0 y0 x1 y1 : Int) (j : Nat) : Nat := 16 * (lineAt y0 (y1 - y0) (lineN x0 y0 x1 y1) j).toNat + (lineAt x0 (x1 - x0) (lineN x0 y0 x1 y1) j).toNat
def lineUpto (x0 y0 x1 y1 : Int) (k : Nat) (p : Nat) : Bool := (List.range k).any fun j => decide (p = linePix x0 y0 x1 y1 j)
def lineF (x0 y0 x1 y1 : Int) (p : Nat) : Bool := lineUpto x0 y0 x1 y1 ((lineN x0 y0 x1 y1).toNat + 1) p
theorem lineUpto_succ (x0 y0 x1 y1 : Int) (k p : Nat) : lineUpto x0 y0 x1 y1 (k + 1) p = (lineUpto x0 y0 x1 y1 k p || decide (p = linePix x0 y0 x1 y1 k)) := by
  unfold lineUpto
  rw [List.range_succ, List.any_append]
  simp
theorem lineAt_zero (a d n : Int) (hn : 0 ≤ n) : lineAt a d n 0 = a := by
  unfold lineAt
  have : (2 * (((0 : Nat) : Int) * d) + n) / (2 * n) = 0 := by
    rw [show ((0 : Nat) : Int) = 0 from rfl, Int.zero_mul]
    rcases Int.lt_or_eq_of_le hn with h | h
    · rw [Int.ediv_eq_zero_of_lt (by omega) (by omega)]
    · rw [← h]; rfl
  omega
theorem lineQ_bounds (d n : Int) (j : Nat) (hn : 0 < n) (hj : (j : Int) ≤ n) (hd0 : -n ≤ d) (hd1 : d ≤ n) :
    (0 ≤ d → 0 ≤ (2 * ((j : Int) * d) + n) / (2 * n) ∧ (2 * ((j : Int) * d) + n) / (2 * n) ≤ d) ∧ (d ≤ 0 → d ≤ (2 * ((j : Int) * d) + n) / (2 * n) ∧ (2 * ((j : Int) * d) + n) / (2 * n) ≤ 0) := by
  have h1 : (n - j) * n ≥ 0 := Int.mul_nonneg (by omega) (by omega)
  refine ⟨fun h => ?_, fun h => ?_⟩
  · have hp : 0 ≤ (j : Int) * d := Int.mul_nonneg (by omega) h
    have hq : (j : Int) * d ≤ n * d := Int.mul_le_mul_of_nonneg_right hj h
    refine ⟨Int.ediv_nonneg (by omega) (by omega), ?_⟩
    have : (2 * ((j : Int) * d) + n) / (2 * n) < d + 1 := by
      rw [Int.ediv_lt_iff_lt_mul (by omega)]
      have e : (d + 1) * (2 * n) = 2 * (n * d) + 2 * n := by
        rw [Int.add_mul, Int.mul_comm d (2 * n), Int.mul_assoc]
        omega
      omega
    omega
  · have hp : (j : Int) * d ≤ 0 := by
      have := Int.mul_nonneg (a := (j : Int)) (b := -d) (by omega) (by omega)
      rw [Int.mul_neg] at this
      omega
    have hq : n * d ≤ (j : Int) * d := Int.mul_le_mul_of_nonpos_right hj h
    constructor
    · rw [Int.le_ediv_iff_mul_le (by omega)]
      have e : d * (2 * n) = 2 * (n * d) := by
        rw [Int.mul_comm d (2 * n), Int.mul_assoc]
      omega
    · have : (2 * ((j : Int) * d) + n) / (2 * n) < 0 + 1 := by
        rw [Int.ediv_lt_iff_lt_mul (by omega)]
        omega
      omega
theorem lineAt_bounds (a b n : Int) (j : Nat) (ha0 : 0 ≤ a) (ha1 : a < 16) (hb0 : 0 ≤ b) (hb1 : b < 16) (hn : 0 < n) (hj : (j : Int) ≤ n) (hd : absI (b - a) ≤ n) : 0 ≤ lineAt a (b - a) n j ∧ lineAt a (b - a) n j < 16 := by
  unfold absI at hd
  have h := lineQ_bounds (b - a) n j hn hj (by split at hd <;> omega) (by split at hd <;> omega)
  unfold lineAt
  rcases Int.le_total 0 (b - a) with h0 | h0
  · have := h.1 h0; omega
  · have := h.2 h0; omega
theorem absI_bounds (a b : Int) (ha0 : 0 ≤ a) (ha1 : a < 16) (hb0 : 0 ≤ b) (hb1 : b < 16) : 0 ≤ absI (b - a) ∧ absI (b - a) ≤ 15 := by
  unfold absI
  split <;> omega
theorem lineN_facts (x0 y0 x1 y1 : Int) : absI (x1 - x0) ≤ lineN x0 y0 x1 y1 ∧ absI (y1 - y0) ≤ lineN x0 y0 x1 y1 ∧ (lineN x0 y0 x1 y1 = absI (x1 - x0) ∨ lineN x0 y0 x1 y1 = absI (y1 - y0)) := by
  unfold lineN mx
  split <;> omega
theorem floor_of_tdiv (a b : Int) (hb : 0 < b) : (if Int.tdiv a b * b > a then Int.tdiv a b - 1 else Int.tdiv a b) = a / b := by
  have h1 := Int.mul_tdiv_add_tmod a b
  have h2 := Int.mul_ediv_add_emod a b
  have h3 := Int.emod_nonneg a (show b ≠ 0 by omega)
  have h4 := Int.emod_lt_of_pos a hb
  rw [Int.mul_comm] at h1 h2
  rcases Int.le_total 0 a with h | h
  · rw [Int.tdiv_eq_ediv_of_nonneg h]
    rw [if_neg]
    omega
  · have h5 : 0 ≤ Int.tmod (-a) b := Int.tmod_nonneg b (by omega)
    rw [Int.neg_tmod] at h5
    have h6 := Int.tmod_lt_of_pos (-a) hb
    rw [Int.neg_tmod] at h6
    generalize Int.tdiv a b = q at *
    generalize Int.tmod a b = t at *
    generalize a / b = e at *
    generalize a % b = m at *
    have key : (q - e) * b = m - t := by rw [Int.sub_mul]; omega
    by_cases h7 : q * b > a
    · rw [if_pos h7]
      have h8 : 0 < (q - e) * b := by omega
      have h9 : (q - e) * b < 2 * b := by omega
      have h10 : 0 < q - e := Int.lt_of_mul_lt_mul_right (a := b) (by omega) (by omega)
      have h11 : q - e < 2 := Int.lt_of_mul_lt_mul_right h9 (by omega)
      omega
    · rw [if_neg h7]
      have h8 : -b < (q - e) * b := by omega
      have h9 : (q - e) * b < b := by omega
      have h10 : -1 < q - e := Int.lt_of_mul_lt_mul_right (a := b) (by omega) (by omega)
      have h11 : q - e < 1 := Int.lt_of_mul_lt_mul_right (a := b) (by omega) (by omega)
      omega
theorem rounded_val (a n : Int) (hn0 : 0 < n) (hn1 : n ≤ 1000000) (ha0 : -1000000 ≤ a) (ha1 : a ≤ 1000000) : impl_rounded.f a n = some ((2 * a + n) / (2 * n)) := by
  unfold impl_rounded.f
  rw [wrapIn (x := 2 * a) (by omega) (by omega), wrapIn (x := 2 * a + n) (by omega) (by omega), wrapIn (x := 2 * n) (by omega) (by omega)]
  have hq : -3000001 ≤ Int.tdiv (2 * a + n) (2 * n) ∧ Int.tdiv (2 * a + n) (2 * n) ≤ 3000001 := by
    have h1 := Int.natAbs_tdiv_le_natAbs (2 * a + n) (2 * n)
    omega
  have hm : Int.tdiv (2 * a + n) (2 * n) * (2 * n) = (2 * a + n) - Int.tmod (2 * a + n) (2 * n) := by
    have h1 := Int.mul_tdiv_add_tmod (2 * a + n) (2 * n)
    rw [Int.mul_comm] at h1
    omega
  have ht : -(2 * n) < Int.tmod (2 * a + n) (2 * n) ∧ Int.tmod (2 * a + n) (2 * n) < 2 * n := by
    refine ⟨?_, Int.tmod_lt_of_pos _ (by omega)⟩
    have h6 := Int.tmod_lt_of_pos (-(2 * a + n)) (show 0 < 2 * n by omega)
    rw [Int.neg_tmod] at h6
    omega
  have hf := floor_of_tdiv (2 * a + n) (2 * n) (by omega)
  unfold impl_floorDiv.f
  rw [if_neg (by omega), wrapIn (x := Int.tdiv (2 * a + n) (2 * n)) (by omega) (by omega), wrapIn (x := Int.tdiv (2 * a + n) (2 * n) * (2 * n)) (by omega) (by omega), wrapIn (x := Int.tdiv (2 * a + n) (2 * n) - 1) (by omega) (by omega)]
  rw [← hf]
  split <;> rfl
theorem size_val (a : Int) (h0 : -1000 ≤ a) (h1 : a ≤ 1000) : impl_size.f a = some (absI a) := by
  unfold impl_size.f absI mx
  rw [wrapIn (by omega) (by omega)]
  congr 1
  split <;> split <;> omega
def lineOk (x0 y0 x1 y1 : Int) : Prop := (0 ≤ x0 ∧ x0 < 16) ∧ (0 ≤ y0 ∧ y0 < 16) ∧ (0 ≤ x1 ∧ x1 < 16) ∧ (0 ≤ y1 ∧ y1 < 16)
instance (x0 y0 x1 y1 : Int) : Decidable (lineOk x0 y0 x1 y1) := by unfold lineOk; exact inferInstance
def impl_LineRegion.f (a0 a1 a2 a3 : Int) : Option (List S45) := some (if lineOk a0 a1 a2 a3 then runsL (lineF a0 a1 a2 a3) else [])
set_option maxHeartbeats 8000000 in
set_option maxRecDepth 100000 in
theorem impl_LineRegion.no (a0 a1 a2 a3 : Int) (w : World) (h : ¬ lineOk a0 a1 a2 a3) :
    Calls Try.prog 25 #[.int .i64 a0, .int .i64 a1, .int .i64 a2, .int .i64 a3] w fun e w' => e = .returned (.slice none 0 0) ∧ Below w.heap.size w w' := by
  have HB : Aside0 (Below w.heap.size w (w.alloc (.cells #[.int .i64 a0, .int .i64 a1, .int .i64 a2, .int .i64 a3] 3))) := ⟨below_alloc (Below.refl w.heap.size w) _⟩
  unfold lineOk at h
  by_cases h0_ : a0 < 0
  · have d0_ : decide (a0 < 0) = true := decide_eq_true h0_
    clear h
    go_enter Try.func25, Try.ntmps25
    go_wp2
    refine wp_loop_rounds 1 ?_
    rw [rounds_succ]; go_wp2
    go_ret
    exact ⟨rfl, HB.out⟩
  have d0_ : decide (a0 < 0) = false := decide_eq_false h0_
  by_cases h1_ : 16 ≤ a0
  · have d1_ : decide (16 ≤ a0) = true := decide_eq_true h1_
    clear h
    go_enter Try.func25, Try.ntmps25
    go_wp2
    refine wp_loop_rounds 1 ?_
    rw [rounds_succ]; go_wp2
    go_ret
    exact ⟨rfl, HB.out⟩
  have d1_ : decide (16 ≤ a0) = false := decide_eq_false h1_
  by_cases h2_ : a1 < 0
  · have d2_ : decide (a1 < 0) = true := decide_eq_true h2_
    clear h
    go_enter Try.func25, Try.ntmps25
    go_wp2
    refine wp_loop_rounds 2 ?_
    rw [rounds_succ]; go_wp2
    rw [rounds_succ]; go_wp2
    go_ret
    exact ⟨rfl, HB.out⟩
  have d2_ : decide (a1 < 0) = false := decide_eq_false h2_
  by_cases h3_ : 16 ≤ a1
  · have d3_ : decide (16 ≤ a1) = true := decide_eq_true h3_
    clear h
    go_enter Try.func25, Try.ntmps25
    go_wp2
    refine wp_loop_rounds 2 ?_
    rw [rounds_succ]; go_wp2
    rw [rounds_succ]; go_wp2
    go_ret
    exact ⟨rfl, HB.out⟩
  have d3_ : decide (16 ≤ a1) = false := decide_eq_false h3_
  by_cases h4_ : a2 < 0
  · have d4_ : decide (a2 < 0) = true := decide_eq_true h4_
    clear h
    go_enter Try.func25, Try.ntmps25
    go_wp2
    refine wp_loop_rounds 3 ?_
    rw [rounds_succ]; go_wp2
    rw [rounds_succ]; go_wp2
    rw [rounds_succ]; go_wp2
    go_ret
    exact ⟨rfl, HB.out⟩
  have d4_ : decide (a2 < 0) = false := decide_eq_false h4_
  by_cases h5_ : 16 ≤ a2
  · have d5_ : decide (16 ≤ a2) = true := decide_eq_true h5_
    clear h
    go_enter Try.func25, Try.ntmps25
    go_wp2
    refine wp_loop_rounds 3 ?_
    rw [rounds_succ]; go_wp2
    rw [rounds_succ]; go_wp2
    rw [rounds_succ]; go_wp2
    go_ret
    exact ⟨rfl, HB.out⟩
  have d5_ : decide (16 ≤ a2) = false := decide_eq_false h5_
  by_cases h6_ : a3 < 0
  · have d6_ : decide (a3 < 0) = true := decide_eq_true h6_
    clear h
    go_enter Try.func25, Try.ntmps25
    go_wp2
    refine wp_loop_rounds 4 ?_
    rw [rounds_succ]; go_wp2
    rw [rounds_succ]; go_wp2
    rw [rounds_succ]; go_wp2
    rw [rounds_succ]; go_wp2
    go_ret
    exact ⟨rfl, HB.out⟩
  have d6_ : decide (a3 < 0) = false := decide_eq_false h6_
  by_cases h7_ : 16 ≤ a3
  · have d7_ : decide (16 ≤ a3) = true := decide_eq_true h7_
    clear h
    go_enter Try.func25, Try.ntmps25
    go_wp2
    refine wp_loop_rounds 4 ?_
    rw [rounds_succ]; go_wp2
    rw [rounds_succ]; go_wp2
    rw [rounds_succ]; go_wp2
    rw [rounds_succ]; go_wp2
    go_ret
    exact ⟨rfl, HB.out⟩
  have d7_ : decide (16 ≤ a3) = false := decide_eq_false h7_
  exact absurd (by omega) h
theorem mul_bound_ (i d : Int) (h0 : 0 ≤ i) (h1 : i ≤ 15) (h2 : -15 ≤ d) (h3 : d ≤ 15) : -225 ≤ i * d ∧ i * d ≤ 225 := by
  have e1 := Int.mul_nonneg (a := i) (b := 15 - d) h0 (by omega)
  have e2 := Int.mul_nonneg (a := i) (b := 15 + d) h0 (by omega)
  rw [Int.mul_sub] at e1
  rw [Int.mul_add] at e2
  omega
set_option maxHeartbeats 8000000 in
set_option maxRecDepth 100000 in
theorem impl_LineRegion.yes (a0 a1 a2 a3 : Nat) (w : World) (p0 : a0 < 16) (p1 : a1 < 16) (p2 : a2 < 16) (p3 : a3 < 16) :
    Calls Try.prog 25 #[.int .i64 a0, .int .i64 a1, .int .i64 a2, .int .i64 a3] w fun e w' => ∃ v0_ : Value, e = .returned v0_ ∧ Kd.R k45 45 w' w.heap.size (fun _ => True) v0_ (runsL (lineF a0 a1 a2 a3)) ∧ Below w.heap.size w w' := by
  have HB : Aside0 (Below w.heap.size w ((w.alloc (.cells #[.int .i64 a0, .int .i64 a1, .int .i64 a2, .int .i64 a3] 3)).alloc (.cells (gcells fun _ => false) 59))) := ⟨below_alloc (below_alloc (Below.refl w.heap.size w) _) _⟩
  have HG : IsGrid ((w.alloc (.cells #[.int .i64 a0, .int .i64 a1, .int .i64 a2, .int .i64 a3] 3)).alloc (.cells (gcells fun _ => false) 59)) (w.heap.size + 1) (fun _ => false) := ⟨heap_alloc2_new w _ _⟩
  have d0_ : decide ((a0 : Int) < 0) = false := decide_eq_false (by omega)
  have d1_ : decide ((16 : Int) ≤ a0) = false := decide_eq_false (by omega)
  have d2_ : decide ((a1 : Int) < 0) = false := decide_eq_false (by omega)
  have d3_ : decide ((16 : Int) ≤ a1) = false := decide_eq_false (by omega)
  have d4_ : decide ((a2 : Int) < 0) = false := decide_eq_false (by omega)
  have d5_ : decide ((16 : Int) ≤ a2) = false := decide_eq_false (by omega)
  have d6_ : decide ((a3 : Int) < 0) = false := decide_eq_false (by omega)
  have d7_ : decide ((16 : Int) ≤ a3) = false := decide_eq_false (by omega)
  have hf := lineN_facts a0 a1 a2 a3
  have hax := absI_bounds a0 a2 (by omega) (by omega) (by omega) (by omega)
  have hay := absI_bounds a1 a3 (by omega) (by omega) (by omega) (by omega)
  obtain ⟨n, hn⟩ : ∃ n : Nat, lineN a0 a1 a2 a3 = (n : Int) := ⟨(lineN a0 a1 a2 a3).toNat, by omega⟩
  have hn15 : n ≤ 15 := by omega
  rw [hn] at hf
  have HA := Aside0.mk (And.intro hf.1 hf.2.1)
  have HN := Aside0.mk hn
  have hmx : (absI ((a2 : Int) - a0) = (n : Int) ∧ absI ((a3 : Int) - a1) ≤ (n : Int)) ∨ (absI ((a3 : Int) - a1) = (n : Int) ∧ absI ((a2 : Int) - a0) < (n : Int)) := by omega
  clear hf hax hay hn
  have HS : Aside0 (∀ (a : Int) (W : World), -1000 ≤ a → a ≤ 1000 → Calls Try.prog 56 #[.int .i64 a] W fun e w' => e = .returned (.int .i64 (absI a)) ∧ Below W.heap.size W w') := ⟨fun a W h0 h1 => impl_size.calls a _ W (size_val a h0 h1)⟩
  have HR : Aside0 (∀ (a n : Int) (W : World), 0 < n → n ≤ 15 → -225 ≤ a → a ≤ 225 → Calls Try.prog 57 #[.int .i64 a, .int .i64 n] W fun e w' => e = .returned (.int .i64 ((2 * a + n) / (2 * n))) ∧ Drawn0 W w') := ⟨fun a n W h0 h1 h2 h3 => impl_rounded.calls a n _ W (rounded_val a n h0 (by omega) (by omega) (by omega))⟩
  have HX := Aside0.mk (run_index_grid (w.heap.size + 1))
  have HY := Aside0.mk (run_index_line (w.heap.size + 1))
  rcases hmx with ⟨hmx1, hmx2⟩ | ⟨hmx1, hmx2⟩
  all_goals
    go_enter Try.func25, Try.ntmps25
    go_wp2
    refine wp_loop_rounds 5 ?_
    rw [rounds_succ]; go_wp2
    rw [rounds_succ]; go_wp2
    rw [rounds_succ]; go_wp2
    rw [rounds_succ]; go_wp2
    have hi1 := HX.out a1 p1
    have hi2 := HY.out (a1 * 16) a0 p0
    rw [rounds_succ]
    go_wp2_with (first
      | (refine wpList_alloc_grid rfl rfl ?_; (try simp only [gsize_alloc]))
      | (refine wpList_build_grid rfl rfl ?_)
      | (refine wpList_store_grid_same rfl _ _ rfl (w.heap.size + 1) (fun _ => false) rfl rfl HG ?_)
      | (go_at_call_of 56 (Value.int IntKind.i64 ((a2 : Int) - (a0 : Int))); refine (HS.out _ _ (by omega) (by omega)).mono ?_; rintro e w1 ⟨rfl, hb1⟩; have HG1 := HG.below hb1 HG.lt; have HB1 := Aside0.mk (below_step HB.out hb1); clear hb1)
      | (go_at_call_of 56 (Value.int IntKind.i64 ((a3 : Int) - (a1 : Int))); refine (HS.out _ _ (by omega) (by omega)).mono ?_; rintro e w2 ⟨rfl, hb2⟩; have HG2 := HG1.below hb2 HG1.lt; have HB2 := Aside0.mk (below_step HB1.out hb2); have hc2 := HG2.cell (a1 * 16 + a0) (by omega); have hf2 := HG2.frozen (a1 * 16 + a0); clear hb2))
    have HG3 := HG2.set (a1 * 16 + a0) true
    have HB3 := Aside0.mk (below_set HB2.out (show w.heap.size ≤ w.heap.size + 1 by omega) (j := a1 * 16 + a0) (v := .bool true))
    clear hi1 hi2 hc2 hf2 HG2 HB2 HG1 HB1 HG HB
    go_loopw [13] (fun i wr => ∃ i_ : Nat, 1 ≤ i_ ∧ i_ ≤ n + 1 ∧ i = .int .i64 i_ ∧ IsGrid wr (w.heap.size + 1) (lineUpto a0 a1 a2 a3 i_) ∧ Aside0 (Below w.heap.size w wr)) (fun i _ => 17 - (intOf i).toNat)
    case atStart =>
      refine ⟨1, by omega, by omega, rfl, HG3.congr (fun p hp => ?_), HB3⟩
      have h0 : linePix a0 a1 a2 a3 0 = a1 * 16 + a0 := by
        unfold linePix
        rw [HN.out, lineAt_zero _ _ _ (by omega), lineAt_zero _ _ _ (by omega)]
        omega
      rw [show (1 : Nat) = 0 + 1 from rfl, lineUpto_succ, h0]
      unfold lineUpto
      by_cases h1 : p = a1 * 16 + a0
      · rw [if_pos h1, decide_eq_true h1]
        rfl
      · rw [if_neg h1, decide_eq_false h1]
        rfl
    case round =>
      clear HG3 HB3
      obtain ⟨i, hi0, hi1, rfl, HG, HB⟩ := hrel
      by_cases hlt : i ≤ n
      · have hdi : decide ((i : Int) ≤ (n : Int)) = true := decide_eq_true (by omega)
        have hbx := lineAt_bounds a0 a2 n i (by omega) (by omega) (by omega) (by omega) (by omega) (by omega) HA.out.1
        have hby := lineAt_bounds a1 a3 n i (by omega) (by omega) (by omega) (by omega) (by omega) (by omega) HA.out.2
        obtain ⟨col, hcol⟩ : ∃ col : Nat, lineAt a0 ((a2 : Int) - a0) n i = (col : Int) := ⟨(lineAt a0 ((a2 : Int) - a0) n i).toNat, by omega⟩
        obtain ⟨row, hrow⟩ : ∃ row : Nat, lineAt a1 ((a3 : Int) - a1) n i = (row : Int) := ⟨(lineAt a1 ((a3 : Int) - a1) n i).toNat, by omega⟩
        rw [hcol] at hbx
        rw [hrow] at hby
        have HP : Aside0 (linePix a0 a1 a2 a3 i = row * 16 + col) := ⟨by
          unfold linePix
          rw [HN.out, hcol, hrow]
          omega⟩
        have hc16 : col < 16 := by omega
        have hr16 : row < 16 := by omega
        unfold lineAt at hcol hrow
        have hmx1 := (mul_bound_ i ((a2 : Int) - a0) (by omega) (by omega) (by omega) (by omega)).1
        have hmx2 := (mul_bound_ i ((a2 : Int) - a0) (by omega) (by omega) (by omega) (by omega)).2
        have hmy1 := (mul_bound_ i ((a3 : Int) - a1) (by omega) (by omega) (by omega) (by omega)).1
        have hmy2 := (mul_bound_ i ((a3 : Int) - a1) (by omega) (by omega) (by omega) (by omega)).2
        have e1 : IntKind.i64.wrap ((a2 : Int) - a0) = (a2 : Int) - a0 := (i64_w _).trans (wrapIn (by omega) (by omega))
        have e2 : IntKind.i64.wrap ((a3 : Int) - a1) = (a3 : Int) - a1 := (i64_w _).trans (wrapIn (by omega) (by omega))
        have e3 : IntKind.i64.wrap ((i : Int) * ((a2 : Int) - a0)) = (i : Int) * ((a2 : Int) - a0) := (i64_w _).trans (wrapIn (by omega) (by omega))
        have e4 : IntKind.i64.wrap ((i : Int) * ((a3 : Int) - a1)) = (i : Int) * ((a3 : Int) - a1) := (i64_w _).trans (wrapIn (by omega) (by omega))
        have e5 : IntKind.i64.wrap ((a0 : Int) + (2 * ((i : Int) * ((a2 : Int) - a0)) + n) / (2 * n)) = (col : Int) := (i64_w _).trans (by rw [hcol]; exact wrapIn (by omega) (by omega))
        have e6 : IntKind.i64.wrap ((a1 : Int) + (2 * ((i : Int) * ((a3 : Int) - a1)) + n) / (2 * n)) = (row : Int) := (i64_w _).trans (by rw [hrow]; exact wrapIn (by omega) (by omega))
        clear hcol hrow hbx hby
        have hi1_ := HX.out row hr16
        have hi2_ := HY.out (row * 16) col hc16
        have hc := HG.cell (row * 16 + col) (by omega)
        have hf := HG.frozen (row * 16 + col)
        go_wp2_with fail
        go_region_with (first | (go_at_call 57; refine (HR.out _ _ _ ?_ ?_ ?_ ?_).mono ?_; omega; omega; assumption; assumption; rintro e w' ⟨rfl, ⟨nd, rfl⟩⟩))
        clear e1 e2 e3 e4 e5 e6 hc hf hi1_ hi2_
        go_wp2
        go_roundw
        case rel =>
          refine ⟨i + 1, by omega, by omega, by go_num, ((HG.drewN _).set (row * 16 + col) true).congr (fun p hp => ?_), ⟨below_set (by repeat (first | exact HB.out | apply pw_below_drewN | apply below_drew1)) (show w.heap.size ≤ w.heap.size + 1 by omega)⟩⟩
          rw [lineUpto_succ, HP.out]
          by_cases h1 : p = row * 16 + col
          · rw [if_pos h1, decide_eq_true h1, Bool.or_true]
          · rw [if_neg h1, decide_eq_false h1, Bool.or_false]
        case measure => simp [intOf]; omega
      · have hdi : decide ((i : Int) ≤ (n : Int)) = false := decide_eq_false (by omega)
        have hin : i = n + 1 := by omega
        subst hin
        go_wp2_with (first
          | (refine wpList_load_grid rfl _ rfl (w.heap.size + 1) _ rfl HG ?_)
          | (go_at_call 46; refine (impl_grid_runs.any _ _).mono ?_; rintro e w6 ⟨v0, rfl, ho, hb6⟩; have HO := Aside0.mk (Kd.R_lower ho (below_size HB.out)); have HB6 := Aside0.mk (below_step HB.out hb6); clear hb6 ho))
        go_ret
        refine ⟨_, rfl, ?_, HB6.out⟩
        have hfin : lineF a0 a1 a2 a3 = lineUpto a0 a1 a2 a3 (n + 1) := by
          funext p
          unfold lineF
          rw [HN.out]
          rfl
        rw [hfin]
        exact HO.out
theorem impl_LineRegion.calls (a0 a1 a2 a3 : Int) (r : List S45) (w : World) (h : impl_LineRegion.f a0 a1 a2 a3 = some r) :
    Calls Try.prog 25 #[.int .i64 a0, .int .i64 a1, .int .i64 a2, .int .i64 a3] w fun e w' => ∃ v0_ : Value, e = .returned v0_ ∧ Kd.R k45 45 w' w.heap.size (fun _ => True) v0_ r ∧ Below w.heap.size w w' := by
  obtain rfl := Option.some.inj h
  by_cases hk : lineOk a0 a1 a2 a3
  · rw [if_pos hk]
    obtain ⟨⟨p0, p1⟩, ⟨p2, p3⟩, ⟨p4, p5⟩, ⟨p6, p7⟩⟩ := hk
    obtain ⟨b0, rfl⟩ := Int.eq_ofNat_of_zero_le p0
    obtain ⟨b1, rfl⟩ := Int.eq_ofNat_of_zero_le p2
    obtain ⟨b2, rfl⟩ := Int.eq_ofNat_of_zero_le p4
    obtain ⟨b3, rfl⟩ := Int.eq_ofNat_of_zero_le p6
    exact impl_LineRegion.yes b0 b1 b2 b3 w (by omega) (by omega) (by omega) (by omega)
  · rw [if_neg hk]
    refine (impl_LineRegion.no a0 a1 a2 a3 w hk).mono ?_
    rintro e w1 ⟨rfl, hb⟩
    exact ⟨_, rfl, Kd.R_nil _ _ _ _ _, hb⟩

end Go.Proofs.Ytifjkllkbciliaa.Print
