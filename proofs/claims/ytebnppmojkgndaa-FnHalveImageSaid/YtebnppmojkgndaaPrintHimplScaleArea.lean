-- laid by hp.py (a program of this work over the kit's print), with contracts by hand for what the print does not take
import Derived.Test.YtebnppmojkgndaaPrint0
import Derived.Test.YtebnppmojkgndaaPrintHimplHalveImage
import Derived.Test.YtebnppmojkgndaaPrintHimplimageBy
import Derived.Test.YtebnppmojkgndaaPrintHx0
import Derived.Test.YtebnppmojkgndaaPrintHx2
import Derived.Test.YtebnppmojkgndaaPrintR0x0
namespace Go.Proofs.Ytebnppmojkgndaa.Print
open Go.RowKit Go.Proofs.YtebnppmojkgndaaW.PrintWords Go.Proofs.YtebnppmojkgndaaW.PrintLast Go.Proofs.YtebnppmojkgndaaW.PrintMore
attribute [local go_sem] max2_int min2_int max_two min_two max_three min_three max_four min_four   -- for this text's walks alone
set_option linter.unusedVariables false
set_option linter.unusedSimpArgs false

--SNIP impl_ScaleArea
/-! ### impl_ScaleArea: function 8, by hand -/
/-- A row whose first k numbers are told by one function, the others by another. -/
def rowL (p : Nat) (f g : Nat → Int) (k : Nat) : List Int := (List.range p).map fun r => if r < k then f r else g r
theorem rowL_length (p : Nat) (f g : Nat → Int) (k : Nat) : (rowL p f g k).length = p := by simp [rowL]
theorem rowL_rd (p : Nat) (f g : Nat → Int) (k : Nat) (h : k < p) : rd (rowL p f g k) (k : Int) = g k := by
  simp [rd, rowL, List.getD_eq_getElem?_getD, List.getElem?_map, List.getElem?_range h]
theorem rowL_set (p : Nat) (f g : Nat → Int) (k : Nat) : (rowL p f g k).set k (f k) = rowL p f g (k + 1) := by
  apply List.ext_getElem
  · simp [rowL]
  · intro j h1 h2
    rw [List.getElem_set]
    simp only [rowL, List.getElem_map, List.getElem_range]
    by_cases e : k = j
    · subst e
      rw [if_pos rfl, if_pos (by omega)]
    · rw [if_neg e]
      by_cases h : j < k
      · rw [if_pos h, if_pos (by omega)]
      · rw [if_neg h, if_neg (by omega)]
theorem rowL_full (p : Nat) (f g : Nat → Int) : rowL p f g p = (List.range p).map f := by
  unfold rowL
  exact List.map_congr_left fun r hr => if_pos (by simpa using hr)
theorem rowL_none (p : Nat) (f g : Nat → Int) : rowL p f g 0 = (List.range p).map g := by
  unfold rowL
  exact List.map_congr_left fun r hr => if_neg (by omega)
/-- How much a pixel counts in the half of an image, two by two. -/
theorem covered_half (i m x : Nat) (hi : i < 16) (hm : m ≤ 8) (hx : x < 8) : impl_covered.f (i : Int) (m : Int) (x : Int) ((2 * m : Nat) : Int) = some (if i / 2 = x then (m : Int) else 0) := by
  have w1 : wrap64 ((i : Int) + 1) = ((i + 1 : Nat) : Int) := by unfold wrap64; omega
  have w2 : wrap64 ((x : Int) + 1) = ((x + 1 : Nat) : Int) := by unfold wrap64; omega
  have b1 : i * m ≤ 16 * 8 := Nat.mul_le_mul (by omega) hm
  have b2 : x * m ≤ 8 * 8 := Nat.mul_le_mul (by omega) hm
  have e1 : ((i + 1 : Nat) : Int) * (m : Int) = ((i * m + m : Nat) : Int) := by rw [← Int.natCast_mul, Nat.succ_mul]
  have e2 : (i : Int) * (m : Int) = ((i * m : Nat) : Int) := by rw [← Int.natCast_mul]
  have e3 : ((x + 1 : Nat) : Int) * ((2 * m : Nat) : Int) = ((2 * (x * m) + 2 * m : Nat) : Int) := by rw [← Int.natCast_mul, Nat.succ_mul, Nat.mul_left_comm]
  have e4 : (x : Int) * ((2 * m : Nat) : Int) = ((2 * (x * m) : Nat) : Int) := by rw [← Int.natCast_mul, Nat.mul_left_comm]
  have key : (i / 2 = x → i * m = 2 * (x * m) ∨ i * m = 2 * (x * m) + m) ∧ (i / 2 < x → i * m + m ≤ 2 * (x * m)) ∧ (x < i / 2 → 2 * (x * m) + 2 * m ≤ i * m) := by
    refine ⟨fun h => ?_, fun h => ?_, fun h => ?_⟩
    · rcases (show i = 2 * x ∨ i = 2 * x + 1 by omega) with rfl | rfl
      · left; rw [Nat.mul_assoc]
      · right; rw [Nat.succ_mul, Nat.mul_assoc]
    · have := Nat.mul_le_mul_right m (show i + 1 ≤ 2 * x by omega)
      rw [Nat.succ_mul, Nat.mul_assoc] at this
      exact this
    · have := Nat.mul_le_mul_right m (show 2 * x + 2 ≤ i by omega)
      rw [Nat.add_mul, Nat.mul_assoc] at this
      exact this
  unfold impl_covered.f
  rw [w1, w2, e1, e2, e3, e4]
  clear w1 w2 e1 e2 e3 e4
  obtain ⟨k1, k2, k3⟩ := key
  generalize i * m = a at *
  generalize x * m = c at *
  refine congrArg some ?_
  rw [show wrap64 ((a + m : Nat) : Int) = ((a + m : Nat) : Int) from by unfold wrap64; omega, show wrap64 ((a : Nat) : Int) = ((a : Nat) : Int) from by unfold wrap64; omega, show wrap64 ((2 * c + 2 * m : Nat) : Int) = ((2 * c + 2 * m : Nat) : Int) from by unfold wrap64; omega, show wrap64 ((2 * c : Nat) : Int) = ((2 * c : Nat) : Int) from by unfold wrap64; omega]
  unfold mn mx
  rcases Nat.lt_trichotomy (i / 2) x with h | h | h
  · have h1 := k2 h
    rw [if_neg (show ¬ i / 2 = x by omega)]
    unfold wrap64
    repeat' split
    all_goals omega
  · rw [if_pos h]
    rcases k1 h with h1 | h1
    · unfold wrap64
      repeat' split
      all_goals omega
    · unfold wrap64
      repeat' split
      all_goals omega
  · have h1 := k3 h
    rw [if_neg (show ¬ i / 2 = x by omega)]
    unfold wrap64
    repeat' split
    all_goals omega
theorem rounded_half (A S : Int) (h1 : 1 ≤ A) (h2 : A ≤ 64) (h3 : 0 ≤ S) (h4 : S ≤ 1020) : impl_rounded.f (A * S) (4 * A) = some ((S + 2) / 4) := by
  have b0 : 0 ≤ A * S := Int.mul_nonneg (by omega) h3
  have b1 : A * S ≤ 64 * 1020 := Int.mul_le_mul h2 h4 h3 (by omega)
  have e1 : 2 * (A * S) + 4 * A = (2 * A) * (S + 2) := by rw [Int.mul_add, Int.mul_assoc]; omega
  have e2 : 2 * (4 * A) = (2 * A) * 4 := by omega
  have q1 : (2 * (A * S) + 4 * A) / (2 * (4 * A)) = (S + 2) / 4 := by rw [e1, e2, Int.mul_ediv_mul_of_pos _ _ (by omega)]
  have q2 : (S + 2) / 4 * (2 * (4 * A)) ≤ 2 * (A * S) + 4 * A := by rw [← q1]; exact Int.ediv_mul_le _ (by omega)
  have q3 : 0 ≤ (S + 2) / 4 * (2 * (4 * A)) := Int.mul_nonneg (by omega) (by omega)
  have w1 : wrap64 (2 * (A * S)) = 2 * (A * S) := wrapIn (by omega) (by omega)
  have w2 : wrap64 (2 * (A * S) + 4 * A) = 2 * (A * S) + 4 * A := wrapIn (by omega) (by omega)
  have w3 : wrap64 (2 * (4 * A)) = 2 * (4 * A) := wrapIn (by omega) (by omega)
  have t1 : Int.tdiv (2 * (A * S) + 4 * A) (2 * (4 * A)) = (S + 2) / 4 := by rw [Int.tdiv_eq_ediv_of_nonneg (by omega), q1]
  have w4 : wrap64 ((S + 2) / 4) = (S + 2) / 4 := wrapIn (by omega) (by omega)
  have w5 : wrap64 ((S + 2) / 4 * (2 * (4 * A))) = (S + 2) / 4 * (2 * (4 * A)) := wrapIn (by omega) (by omega)
  unfold impl_rounded.f impl_floorDiv.f
  rw [w1, w2, w3, t1, w4, w5, if_neg (by clear w1 w2 w3 w4 w5 t1; omega), if_neg (by clear w1 w2 w3 w4 w5 t1; omega)]
  rfl
/-- One of the four numbers, once it has been met. -/
def metN (p : Nat) (l : List Int) (q r c : Nat) : Int := if c < q then rd l ((c * p + r : Nat) : Int) else 0
/-- The four numbers that have been met among the first q pixels. -/
def quadN (W p : Nat) (l : List Int) (x y q r : Nat) : Int := metN p l q r (2 * y * W + 2 * x) + metN p l q r (2 * y * W + (2 * x + 1)) + metN p l q r ((2 * y + 1) * W + 2 * x) + metN p l q r ((2 * y + 1) * W + (2 * x + 1))
theorem metN_hit (p : Nat) (l : List Int) (q r : Nat) : metN p l (q + 1) r q = rd l ((q * p + r : Nat) : Int) ∧ metN p l q r q = 0 := by
  unfold metN
  exact ⟨if_pos (by omega), if_neg (by omega)⟩
theorem metN_miss (p : Nat) (l : List Int) (q r c : Nat) (h : c ≠ q) : metN p l (q + 1) r c = metN p l q r c := by
  unfold metN
  by_cases h1 : c < q
  · rw [if_pos h1, if_pos (by omega)]
  · rw [if_neg h1, if_neg (by omega)]
theorem place_inj {W i j u v : Nat} (hi : i < W) (hu : u < W) (h : j * W + i = v * W + u) : j = v ∧ i = u := by
  have h1 := congrArg (· / W) h
  have h2 := congrArg (· % W) h
  rw [Nat.mul_comm j W, Nat.mul_comm v W, Nat.mul_add_div (by omega), Nat.mul_add_div (by omega), Nat.div_eq_of_lt hi, Nat.div_eq_of_lt hu] at h1
  rw [Nat.mul_comm j W, Nat.mul_comm v W, Nat.mul_add_mod, Nat.mul_add_mod, Nat.mod_eq_of_lt hi, Nat.mod_eq_of_lt hu] at h2
  omega
theorem quadN_step (W p : Nat) (l : List Int) (x y i j r : Nat) (hi : i < W) (hx : 2 * x + 1 < W) : quadN W p l x y (j * W + i + 1) r = quadN W p l x y (j * W + i) r + (if i / 2 = x ∧ j / 2 = y then rd l (((j * W + i) * p + r : Nat) : Int) else 0) := by
  have ne : ∀ u v, u < W → ¬ (j = v ∧ i = u) → v * W + u ≠ j * W + i := fun u v hu hn e => hn (place_inj hi hu e.symm)
  unfold quadN
  by_cases hc : i / 2 = x ∧ j / 2 = y
  · rw [if_pos hc]
    have hii : i = 2 * x ∨ i = 2 * x + 1 := by omega
    have hjj : j = 2 * y ∨ j = 2 * y + 1 := by omega
    rcases hii with rfl | rfl <;> rcases hjj with rfl | rfl
    · rw [(metN_hit p l (2 * y * W + 2 * x) r).1, (metN_hit p l (2 * y * W + 2 * x) r).2, metN_miss p l _ r _ (ne _ _ hx (by omega)), metN_miss p l _ r _ (ne _ _ hi (by omega)), metN_miss p l _ r _ (ne _ _ hx (by omega))]
      omega
    · rw [(metN_hit p l ((2 * y + 1) * W + 2 * x) r).1, (metN_hit p l ((2 * y + 1) * W + 2 * x) r).2, metN_miss p l _ r _ (ne _ _ hi (by omega)), metN_miss p l _ r _ (ne _ _ hx (by omega)), metN_miss p l _ r _ (ne _ _ hx (by omega))]
      omega
    · rw [(metN_hit p l (2 * y * W + (2 * x + 1)) r).1, (metN_hit p l (2 * y * W + (2 * x + 1)) r).2, metN_miss p l _ r _ (ne _ _ (by omega) (by omega)), metN_miss p l _ r _ (ne _ _ (by omega) (by omega)), metN_miss p l _ r _ (ne _ _ hx (by omega))]
      omega
    · rw [(metN_hit p l ((2 * y + 1) * W + (2 * x + 1)) r).1, (metN_hit p l ((2 * y + 1) * W + (2 * x + 1)) r).2, metN_miss p l _ r _ (ne _ _ (by omega) (by omega)), metN_miss p l _ r _ (ne _ _ hx (by omega)), metN_miss p l _ r _ (ne _ _ (by omega) (by omega))]
      omega
  · rw [if_neg hc, metN_miss p l _ r _ (ne _ _ (by omega) (by omega)), metN_miss p l _ r _ (ne _ _ hx (by omega)), metN_miss p l _ r _ (ne _ _ (by omega) (by omega)), metN_miss p l _ r _ (ne _ _ hx (by omega))]
    omega
theorem quadN_zero (W p : Nat) (l : List Int) (x y r : Nat) : quadN W p l x y 0 r = 0 := by
  unfold quadN metN
  simp
theorem quadN_bounds (W p : Nat) (l : List Int) (x y q r : Nat) (hb : ∀ n : Nat, 0 ≤ rd l (n : Int) ∧ rd l (n : Int) ≤ 255) : 0 ≤ quadN W p l x y q r ∧ quadN W p l x y q r ≤ 1020 := by
  have h : ∀ c, 0 ≤ metN p l q r c ∧ metN p l q r c ≤ 255 := fun c => by
    unfold metN
    split
    · exact hb _
    · omega
  have h1 := h (2 * y * W + 2 * x)
  have h2 := h (2 * y * W + (2 * x + 1))
  have h3 := h ((2 * y + 1) * W + 2 * x)
  have h4 := h ((2 * y + 1) * W + (2 * x + 1))
  unfold quadN
  omega
theorem quadN_all (W H p : Nat) (l : List Int) (x y r : Nat) (hx : 2 * x + 1 < W) (hy : 2 * y + 1 < H) : (quadN W p l x y (H * W) r + 2) / 4 = halfN W p l x y r := by
  have lt : ∀ u v, u < W → v < H → v * W + u < H * W := fun u v hu hv => by
    have := Nat.mul_le_mul_right W (show v + 1 ≤ H by omega)
    rw [Nat.succ_mul] at this
    omega
  unfold quadN metN halfN
  rw [if_pos (lt _ _ (by omega) (by omega)), if_pos (lt _ _ hx (by omega)), if_pos (lt _ _ (by omega) hy), if_pos (lt _ _ hx hy)]
/-- One more number, weighed. -/
theorem weigh_step (S v a b : Int) (m n : Nat) (c : Prop) [Decidable c] (h0 : 0 ≤ S) (h1 : S ≤ 1020) (hv0 : 0 ≤ v) (hv1 : v ≤ 255) (hm : m ≤ 8) (hn : n ≤ 8) (hab : a * b = if c then ((m * n : Nat) : Int) else 0) :
    wrap64 (a * b) = a * b ∧ wrap64 (v * (a * b)) = v * (a * b) ∧ wrap64 (((m * n : Nat) : Int) * S + v * (a * b)) = ((m * n : Nat) : Int) * (S + if c then v else 0) := by
  have b1 : m * n ≤ 8 * 8 := Nat.mul_le_mul hm hn
  generalize m * n = A at *
  have b2 : 0 ≤ (A : Int) * S := Int.mul_nonneg (by omega) h0
  have b3 : (A : Int) * S ≤ 64 * 1020 := Int.mul_le_mul (by omega) h1 h0 (by omega)
  have b4 : 0 ≤ v * (A : Int) := Int.mul_nonneg hv0 (by omega)
  have b5 : v * (A : Int) ≤ 255 * 64 := Int.mul_le_mul hv1 (by omega) (by omega) (by omega)
  rw [hab]
  by_cases h : c
  · simp only [if_pos h]
    refine ⟨wrapIn (by omega) (by omega), wrapIn (by omega) (by omega), ?_⟩
    rw [wrapIn (by omega) (by omega), Int.mul_add, Int.mul_comm (A : Int) v]
  · simp only [if_neg h]
    refine ⟨wrapIn (by omega) (by omega), wrapIn (by omega) (by omega), ?_⟩
    rw [Int.mul_zero, Int.add_zero, Int.add_zero, wrapIn (by omega) (by omega)]
theorem wrapI (x : Int) : IntKind.i64.wrap x = wrap64 x := by
  unfold wrap64
  rw [IntKind.wrap_i64]
/-- What is summed up. -/
def areaS (W p : Nat) (l : List Int) (x y M q r : Nat) : Int := (M : Int) * quadN W p l x y q r
theorem areaS_zero (W p : Nat) (l : List Int) (x y M r : Nat) : areaS W p l x y M 0 r = 0 := by
  unfold areaS
  rw [quadN_zero, Int.mul_zero]
set_option maxHeartbeats 8000000 in
set_option maxRecDepth 100000 in
theorem impl_ScaleArea_1.any (x y m n W H p bw bh : Nat) (hx : x < m) (hy : y < n) (hWm : W = 2 * m) (hHn : H = 2 * n) (ad : Addr) (c : Nat) (l : List Int) (b : Nat) (w : World) (hI : IsImg w b W H p (.slice (some ad) l.length c)) (hr : Kd.C (Kd.int .i64) w (some ad) l.length l) (hc : l.length ≤ c) (hl : l.length = W * H * p) (hp0 : 1 ≤ p) (hW : W ≤ 16) (hH : H ≤ 16) (hp : p ≤ 4) (hby : ∀ q ∈ l, 0 ≤ q ∧ q ≤ 255) (hw : w.cell? ⟨bw, 0, none⟩ = some (.int .i64 (m : Int))) (hh : w.cell? ⟨bh, 0, none⟩ = some (.int .i64 (n : Int))) :
    Calls Try.prog 25 #[.int .i64 x, .int .i64 y, .pointer (some ⟨b, 0, none⟩), .pointer (some ⟨bw, 0, none⟩), .pointer (some ⟨bh, 0, none⟩)] w fun e w' => ∃ (A' : Option Addr) (c' : Nat), e = .returned (.slice A' (halfL W p l x y p).length c') ∧ Kd.C (Kd.int .i64) w' A' (halfL W p l x y p).length (halfL W p l x y p) ∧ Below w.heap.size w w' := by
  have HAT : Aside0 (∀ (u v : Nat) (w1 : World), u < W → v < H → Calls Try.prog 18 #[.agg #[.int .i64 W, .int .i64 H, .int .i64 p, .slice (some ad) l.length c], .int .i64 u, .int .i64 v] w1 fun e w' => e = .returned (.slice (some (ad.add ((v * W + u) * p))) p (c - (v * W + u) * p)) ∧ Below w1.heap.size w1 w') := ⟨fun u v w1 hu hv => impl_Image_at.eq W H p ad c l u v w1 hc hl hW hH hp hp0 hu hv⟩
  have HBY : Aside0 (∀ n : Nat, 0 ≤ rd l (n : Int) ∧ rd l (n : Int) ≤ 255) := ⟨fun n => by
    by_cases hn : n < l.length
    · have e : rd l (n : Int) = l[n] := by simp [rd, List.getD_eq_getElem?_getD, List.getElem?_eq_getElem hn]
      rw [e]
      exact hby _ (List.getElem_mem hn)
    · have e : rd l (n : Int) = 0 := by simp [rd, List.getD_eq_getElem?_getD, List.getElem?_eq_none (show l.length ≤ n by omega)]
      rw [e]
      omega⟩
  have HC : Aside0 (∀ (n : Nat) (w1 : World), n < l.length → Below w.heap.size w w1 → w1.cell? (ad.add n) = some (.int .i64 (rd l (n : Int)))) := ⟨fun n w1 hn hb => by
    obtain ⟨ad', e', hx⟩ := Kd.at_int (Kd.C_below hr hb) (n : Int) (by omega) (by omega)
    obtain rfl : ad = ad' := by injection e'
    rw [Int.toNat_natCast] at hx
    exact hx⟩
  have HPL : Aside0 (∀ u v k, u < W → v < H → k < p → (v * W + u) * p + k < l.length) := ⟨fun u v k hu hv hk => by rw [hl]; exact half_place hu hv hk⟩
  have HCOV : Aside0 (∀ (i : Nat) (w1 : World), i < W → Calls Try.prog 26 #[.int .i64 i, .int .i64 m, .int .i64 x, .int .i64 W] w1 fun e w' => e = .returned (.int .i64 (if i / 2 = x then (m : Int) else 0)) ∧ Below w1.heap.size w1 w') := ⟨fun i w1 hi => by rw [hWm]; exact impl_covered.calls _ _ _ _ _ w1 (covered_half i m x (by omega) (by omega) (by omega))⟩
  have HCOW : Aside0 (∀ (j : Nat) (w1 : World), j < H → Calls Try.prog 26 #[.int .i64 j, .int .i64 n, .int .i64 y, .int .i64 H] w1 fun e w' => e = .returned (.int .i64 (if j / 2 = y then (n : Int) else 0)) ∧ Below w1.heap.size w1 w') := ⟨fun j w1 hj => by rw [hHn]; exact impl_covered.calls _ _ _ _ _ w1 (covered_half j n y (by omega) (by omega) (by omega))⟩
  have hM1 : 1 ≤ m * n := Nat.mul_le_mul (show 1 ≤ m by omega) (show 1 ≤ n by omega)
  have hM2 : m * n ≤ 8 * 8 := Nat.mul_le_mul (by omega) (by omega)
  have hWH : (W : Int) * (H : Int) = 4 * ((m * n : Nat) : Int) := by
    rw [← Int.natCast_mul, hWm, hHn, Nat.mul_mul_mul_comm]
    push_cast
    rfl
  have gWH : wrap64 ((W : Int) * (H : Int)) = 4 * ((m * n : Nat) : Int) := by rw [hWH]; exact wrapIn (by omega) (by omega)
  have HRND : Aside0 (∀ (k : Nat) (w1 : World), Calls Try.prog 19 #[.int .i64 (areaS W p l x y (m * n) (H * W) k), .int .i64 (4 * ((m * n : Nat) : Int))] w1 fun e w' => e = .returned (.int .i64 (halfN W p l x y k)) ∧ Below w1.heap.size w1 w') := ⟨fun k w1 => by
    have hq := quadN_bounds W p l x y (H * W) k HBY.out
    rw [← quadN_all W H p l x y k (by omega) (by omega)]
    refine (impl_rounded.calls _ _ _ w1 (rounded_half _ _ (by omega) (by omega) hq.1 hq.2)).mono ?_
    rintro e w' ⟨rfl, hd⟩
    exact ⟨rfl, hd.below⟩⟩
  have HI0 := Aside0.mk hI
  have HW0 := Aside0.mk hw
  have HH0 := Aside0.mk hh
  have hc2 := hI.c2
  have hu := Try.underlying25
  have HXY : Aside0 ((2 * x + 1 < W ∧ 2 * y + 1 < H) ∧ (m ≤ 8 ∧ n ≤ 8)) := ⟨by omega⟩
  have GWH := Aside0.mk gWH
  clear gWH hWH hM1 hM2 hr hc hl hI hw hh hby hWm hHn hx hy
  go_enter Try.func25, Try.ntmps25
  go_wp2_with ((with_reducible refine gate_dst (N := 18) rfl ?_); refine Kd.R_make (Kd.int .i64) _ 3 rfl (N := 18) rfl 23 _ _ rfl (p : Int) rfl rfl Try.underlying23 (.int .i64 0) 8 info3 rfl (by decide) (by omega) 0 (ok := fun _ => True) (okp := fun _ => True) rfl (fun _ hk => hk) trivial (by omega) (by omega) (Below.refl _ _) (Nat.le_refl _) ?_; intro v2 w2 ho hb hg_ hnew_; clear hg_ hnew_; have HB2 := Aside0.mk hb; have HO2 := Aside0.mk ho; have hc1_2 := (HI0.out.below hb).c1; clear hb ho)
  obtain ⟨g, cap, e2, -, -, -⟩ := Kd.R_form HO2.out (by rw [List.length_replicate]; omega)
  rw [List.length_replicate, Int.toNat_natCast] at e2
  subst e2
  have HO2' : Aside0 (Kd.R (Kd.int .i64) 3 w2 w.heap.size (fun _ => True) (.slice (some ⟨g, 0, none⟩) p cap) ((List.range p).map (areaS W p l x y (m * n) (0 * W)))) := ⟨by
    have h := HO2.out
    rw [Int.toNat_natCast] at h
    rw [show (List.range p).map (areaS W p l x y (m * n) (0 * W)) = List.replicate p 0 from by
      rw [Nat.zero_mul, List.map_congr_left (g := fun _ => 0) (fun r _ => areaS_zero W p l x y (m * n) r), List.map_const', List.length_range]]
    exact h⟩
  clear HO2 hc2
  go_loopw [21] (fun i_ wr => ∃ j : Nat, j ≤ H ∧ i_ = .int .i64 j ∧ Aside0 (Kd.R (Kd.int .i64) 3 wr w.heap.size (fun _ => True) (.slice (some ⟨g, 0, none⟩) p cap) ((List.range p).map (areaS W p l x y (m * n) (j * W)))) ∧ Aside0 (Below w.heap.size w wr)) (fun i_ _ => H - (intOf i_).toNat)
  case atStart => exact ⟨0, by omega, rfl, HO2', HB2⟩
  case round =>
    clear HO2' HB2 hc1_2
    obtain ⟨j, hj, rfl, HO, HB⟩ := hrel
    by_cases hlj : j < H
    · have hdj : decide (j < H) = true := decide_eq_true hlj
      have hc0_ := (HI0.out.below HB.out).c0
      obtain ⟨wo, rfl⟩ : ∃ wo : World, wo = wr := ⟨_, rfl⟩
      go_wp2
      go_loopw [26] (fun i_ wr => ∃ i : Nat, i ≤ W ∧ i_ = .int .i64 i ∧ Aside0 (Kd.R (Kd.int .i64) 3 wr w.heap.size (fun _ => True) (.slice (some ⟨g, 0, none⟩) p cap) ((List.range p).map (areaS W p l x y (m * n) (j * W + i)))) ∧ Aside0 (Below w.heap.size w wr)) (fun i_ _ => W - (intOf i_).toNat)
      case atStart => exact ⟨0, by omega, rfl, HO, HB⟩
      case round =>
        clear HO HB hc0_
        obtain ⟨i, hi, rfl, HO, HB⟩ := hrel
        by_cases hli : i < W
        · have hdi : decide (i < W) = true := decide_eq_true hli
          obtain ⟨cA, hcA⟩ : ∃ cA : Int, cA = if i / 2 = x then (m : Int) else 0 := ⟨_, rfl⟩
          obtain ⟨cB, hcB⟩ : ∃ cB : Int, cB = if j / 2 = y then (n : Int) else 0 := ⟨_, rfl⟩
          have HCA : Aside0 (∀ w1 : World, Calls Try.prog 26 #[.int .i64 i, .int .i64 m, .int .i64 x, .int .i64 W] w1 fun e w' => e = .returned (.int .i64 cA) ∧ Below w1.heap.size w1 w') := ⟨fun w1 => by rw [hcA]; exact HCOV.out i w1 hli⟩
          have HCB : Aside0 (∀ w1 : World, Calls Try.prog 26 #[.int .i64 j, .int .i64 n, .int .i64 y, .int .i64 H] w1 fun e w' => e = .returned (.int .i64 cB) ∧ Below w1.heap.size w1 w') := ⟨fun w1 => by rw [hcB]; exact HCOW.out j w1 hlj⟩
          have hAB : cA * cB = if i / 2 = x ∧ j / 2 = y then ((m * n : Nat) : Int) else 0 := by
            rw [hcA, hcB]
            by_cases h1 : i / 2 = x
            · by_cases h2 : j / 2 = y
              · rw [if_pos h1, if_pos h2, if_pos ⟨h1, h2⟩, Int.natCast_mul]
              · rw [if_pos h1, if_neg h2, if_neg (show ¬ (i / 2 = x ∧ j / 2 = y) from fun h => h2 h.2), Int.mul_zero]
            · rw [if_neg h1, if_neg (show ¬ (i / 2 = x ∧ j / 2 = y) from fun h => h1 h.1), Int.zero_mul]
          have HWS : Aside0 (∀ k, wrap64 (cA * cB) = cA * cB ∧ wrap64 (rd l (((j * W + i) * p + k : Nat) : Int) * (cA * cB)) = rd l (((j * W + i) * p + k : Nat) : Int) * (cA * cB) ∧ wrap64 (areaS W p l x y (m * n) (j * W + i) k + rd l (((j * W + i) * p + k : Nat) : Int) * (cA * cB)) = areaS W p l x y (m * n) (j * W + i + 1) k) := ⟨fun k => by
            have hq := quadN_bounds W p l x y (j * W + i) k HBY.out
            have hv := HBY.out ((j * W + i) * p + k)
            have h := weigh_step (quadN W p l x y (j * W + i) k) _ cA cB m n (i / 2 = x ∧ j / 2 = y) hq.1 hq.2 hv.1 hv.2 HXY.out.2.1 HXY.out.2.2 hAB
            rw [← quadN_step W p l x y i j k hli HXY.out.1.1] at h
            exact h⟩
          have gAB : IntKind.i64.wrap (cA * cB) = cA * cB := by rw [wrapI]; exact (HWS.out 0).1
          clear hAB hcA hcB
          go_wp2_with fail
          have HB1 := Aside0.mk (below_drew HB.out)
          have HO1 := Aside0.mk (Kd.R_drew HO.out)
          refine start_ (n := 14) (S := fun w' => w'.cell? ⟨b, 0, none⟩ = some (.int .i64 (W : Int)) ∧ w'.cell? ⟨b, 1, none⟩ = some (.int .i64 (H : Int)) ∧ w'.cell? ⟨bw, 0, none⟩ = some (.int .i64 (m : Int)) ∧ w'.cell? ⟨bh, 0, none⟩ = some (.int .i64 (n : Int))) (ds := []) #[false, false, false, false, false, false, false, false, false, false, false, false, false, false] (by kernel_rfl) rfl rfl ⟨(HI0.out.below HB1.out).c0, (HI0.out.below HB1.out).c1, pw_cell_below HB1.out HW0.out, pw_cell_below HB1.out HH0.out⟩ (fun hHeld => ?_)
          clear HB HO
          generalize wr.drew = w1 at HB1 HO1 hHeld ⊢
          refine pure_ (i := 0) (N := some 29) (v := ?_) (a' := ?_) #[true, false, false, false, false, false, false, false, false, false, false, false, false, false] rfl rfl (by kernel_rfl) (fun _ _ _ h => h) (Or.inl ⟨by rfl, ?_⟩) ?_ ?_
          rotate_left
          · intro w'
            go_simp
            with_reducible rfl
          rotate_left
          · simp only [Act.put, List.setIfInBounds_toArray, List.set_cons_zero, List.set_cons_succ]
            rfl
          refine take_ (i := 1) (N := some 30) (v := ?_) (a' := ?_) #[true, true, false, false, false, false, false, false, false, false, false, false, false, false] rfl rfl (by kernel_rfl) (fun _ _ _ h => h) (Or.inl ⟨by rfl, ?_⟩) hHeld ?_ ?_
          rotate_left
          · rintro w' ⟨s0, s1, s2, s3⟩
            go_simp
            with_reducible rfl
          rotate_left
          · simp only [Act.put, List.setIfInBounds_toArray, List.set_cons_zero, List.set_cons_succ]
            rfl
          refine pure_ (i := 2) (N := some 31) (v := ?_) (a' := ?_) #[true, true, true, false, false, false, false, false, false, false, false, false, false, false] rfl rfl (by kernel_rfl) (fun _ _ _ h => h) (Or.inl ⟨by rfl, ?_⟩) ?_ ?_
          rotate_left
          · intro w'
            go_simp
            with_reducible rfl
          rotate_left
          · simp only [Act.put, List.setIfInBounds_toArray, List.set_cons_zero, List.set_cons_succ]
            rfl
          refine pure_ (i := 3) (N := some 32) (v := ?_) (a' := ?_) #[true, true, true, true, false, false, false, false, false, false, false, false, false, false] rfl rfl (by kernel_rfl) (fun _ _ _ h => h) (Or.inl ⟨by rfl, ?_⟩) ?_ ?_
          rotate_left
          · intro w'
            go_simp
            with_reducible rfl
          rotate_left
          · simp only [Act.put, List.setIfInBounds_toArray, List.set_cons_zero, List.set_cons_succ]
            rfl
          refine take_ (i := 4) (N := some 33) (v := ?_) (a' := ?_) #[true, true, true, true, true, false, false, false, false, false, false, false, false, false] rfl rfl (by kernel_rfl) (fun _ _ _ h => h) (Or.inl ⟨by rfl, ?_⟩) hHeld ?_ ?_
          rotate_left
          · rintro w' ⟨s0, s1, s2, s3⟩
            go_simp
            with_reducible rfl
          rotate_left
          · simp only [Act.put, List.setIfInBounds_toArray, List.set_cons_zero, List.set_cons_succ]
            rfl
          refine pure_ (i := 6) (N := some 35) (v := ?_) (a' := ?_) #[true, true, true, true, true, false, true, false, false, false, false, false, false, false] rfl rfl (by kernel_rfl) (fun _ _ _ h => h) (Or.inl ⟨by rfl, ?_⟩) ?_ ?_
          rotate_left
          · intro w'
            go_simp
            with_reducible rfl
          rotate_left
          · simp only [Act.put, List.setIfInBounds_toArray, List.set_cons_zero, List.set_cons_succ]
            rfl
          refine take_ (i := 7) (N := some 36) (v := ?_) (a' := ?_) #[true, true, true, true, true, false, true, true, false, false, false, false, false, false] rfl rfl (by kernel_rfl) (fun _ _ _ h => h) (Or.inl ⟨by rfl, ?_⟩) hHeld ?_ ?_
          rotate_left
          · rintro w' ⟨s0, s1, s2, s3⟩
            go_simp
            with_reducible rfl
          rotate_left
          · simp only [Act.put, List.setIfInBounds_toArray, List.set_cons_zero, List.set_cons_succ]
            rfl
          refine pure_ (i := 8) (N := some 37) (v := ?_) (a' := ?_) #[true, true, true, true, true, false, true, true, true, false, false, false, false, false] rfl rfl (by kernel_rfl) (fun _ _ _ h => h) (Or.inl ⟨by rfl, ?_⟩) ?_ ?_
          rotate_left
          · intro w'
            go_simp
            with_reducible rfl
          rotate_left
          · simp only [Act.put, List.setIfInBounds_toArray, List.set_cons_zero, List.set_cons_succ]
            rfl
          refine pure_ (i := 9) (N := some 38) (v := ?_) (a' := ?_) #[true, true, true, true, true, false, true, true, true, true, false, false, false, false] rfl rfl (by kernel_rfl) (fun _ _ _ h => h) (Or.inl ⟨by rfl, ?_⟩) ?_ ?_
          rotate_left
          · intro w'
            go_simp
            with_reducible rfl
          rotate_left
          · simp only [Act.put, List.setIfInBounds_toArray, List.set_cons_zero, List.set_cons_succ]
            rfl
          refine take_ (i := 10) (N := some 39) (v := ?_) (a' := ?_) #[true, true, true, true, true, false, true, true, true, true, true, false, false, false] rfl rfl (by kernel_rfl) (fun _ _ _ h => h) (Or.inl ⟨by rfl, ?_⟩) hHeld ?_ ?_
          rotate_left
          · rintro w' ⟨s0, s1, s2, s3⟩
            go_simp
            with_reducible rfl
          rotate_left
          · simp only [Act.put, List.setIfInBounds_toArray, List.set_cons_zero, List.set_cons_succ]
            rfl
          refine one_ (i := 5) (N := some 34) #[true, true, true, true, true, true, true, true, true, true, true, false, false, false] rfl rfl (by kernel_rfl) (by decide) (fun K' hK' => ?_)
          refine goes_ Try.func26 (by kernel_rfl) rfl #[.int .i64 i, .int .i64 m, .int .i64 x, .int .i64 W] (by rfl) rfl rfl (by simp only [List.map_toArray, List.map_cons, List.map_nil]; rfl) ?_
          refine (HCA.out _).mono ?_
          rintro e w2 ⟨rfl, hb⟩
          refine ⟨_, rfl, ?_⟩
          have HB2 := Aside0.mk (below_step HB1.out hb)
          have HO2 := Aside0.mk (Kd.R_below HO1.out hb)
          clear hb HO1
          refine hK'.out _ _ ⟨(HI0.out.below HB2.out).c0, (HI0.out.below HB2.out).c1, pw_cell_below HB2.out HW0.out, pw_cell_below HB2.out HH0.out⟩ (fun hHeld => ?_)
          clear hK' K'
          refine norm_ (a' := ?_) ?_ ?_
          rotate_left
          · show Act.put _ (some 34) _ = _
            simp only [Act.put, List.setIfInBounds_toArray, List.set_cons_zero, List.set_cons_succ]
            rfl
          refine one_ (i := 11) (N := some 40) #[true, true, true, true, true, true, true, true, true, true, true, true, false, false] rfl rfl (by kernel_rfl) (by decide) (fun K' hK' => ?_)
          refine goes_ Try.func26 (by kernel_rfl) rfl #[.int .i64 j, .int .i64 n, .int .i64 y, .int .i64 H] (by rfl) rfl rfl (by simp only [List.map_toArray, List.map_cons, List.map_nil]; rfl) ?_
          refine (HCB.out _).mono ?_
          rintro e w3 ⟨rfl, hb⟩
          refine ⟨_, rfl, ?_⟩
          have HB3 := Aside0.mk (below_step HB2.out hb)
          have HO3 := Aside0.mk (Kd.R_below HO2.out hb)
          clear hb HO2
          refine hK'.out _ _ ⟨(HI0.out.below HB3.out).c0, (HI0.out.below HB3.out).c1, pw_cell_below HB3.out HW0.out, pw_cell_below HB3.out HH0.out⟩ (fun hHeld => ?_)
          clear hK' K'
          refine norm_ (a' := ?_) ?_ ?_
          rotate_left
          · show Act.put _ (some 40) _ = _
            simp only [Act.put, List.setIfInBounds_toArray, List.set_cons_zero, List.set_cons_succ]
            rfl
          refine pure_ (i := 12) (N := some 41) (v := ?_) (a' := ?_) #[true, true, true, true, true, true, true, true, true, true, true, true, true, false] rfl rfl (by kernel_rfl) (fun _ _ _ h => h) (Or.inl ⟨by rfl, ?_⟩) ?_ ?_
          rotate_left
          · intro w'
            go_simp
            with_reducible rfl
          rotate_left
          · simp only [Act.put, List.setIfInBounds_toArray, List.set_cons_zero, List.set_cons_succ]
            rfl
          refine pure_ (i := 13) (N := some 11) (v := ?_) (a' := ?_) #[true, true, true, true, true, true, true, true, true, true, true, true, true, true] rfl rfl (by kernel_rfl) (fun _ _ _ h => h) (Or.inl ⟨by rfl, ?_⟩) ?_ ?_
          rotate_left
          · intro w'
            go_simp
            with_reducible rfl
          rotate_left
          · simp only [Act.put, List.setIfInBounds_toArray, List.set_cons_zero, List.set_cons_succ]
            rfl
          refine done_ (by kernel_rfl) ?_
          clear hHeld
          generalize hq_ : j * W + i = q at HWS HO3
          have HQ := Aside0.mk hq_
          have HPk : Aside0 (∀ k, k < p → q * p + k < l.length) := ⟨fun k hk => by rw [← hq_]; exact HPL.out i j k hli hlj hk⟩
          have HATq : Aside0 (∀ w1 : World, Calls Try.prog 18 #[.agg #[.int .i64 W, .int .i64 H, .int .i64 p, .slice (some ad) l.length c], .int .i64 i, .int .i64 j] w1 fun e w' => e = .returned (.slice (some (ad.add (q * p))) p (c - q * p)) ∧ Below w1.heap.size w1 w') := ⟨fun w1 => by rw [← hq_]; exact HAT.out i j w1 hli hlj⟩
          clear hq_
          generalize hoff : q * p = off at HPk HATq HWS
          clear hoff
          go_wp2_with (first
            | (refine wpList_load_img rfl _ rfl b W H p _ rfl (HI0.out.below HB3.out) ?_)
            | (go_at_call 18; refine (HATq.out _).mono ?_; rintro e w4 ⟨rfl, hb⟩; have HB4 := Aside0.mk (below_step HB3.out hb); have HO4 := Aside0.mk (Kd.R_below HO3.out hb); clear hb))
          go_loopw [47] (fun i_ wr => ∃ k : Nat, k ≤ p ∧ i_ = .int .i64 k ∧ Aside0 (Kd.R (Kd.int .i64) 3 wr w.heap.size (fun _ => True) (.slice (some ⟨g, 0, none⟩) p cap) (rowL p (areaS W p l x y (m * n) (q + 1)) (areaS W p l x y (m * n) q) k)) ∧ Aside0 (Below w.heap.size w wr)) (fun i_ _ => p - (intOf i_).toNat)
          case atStart => exact ⟨0, by omega, rfl, ⟨by rw [rowL_none]; exact HO4.out⟩, HB4⟩
          case round =>
            clear HO4 HB4 HO3 HB3 gAB
            obtain ⟨k, hk, rfl, HO, HB⟩ := hrel
            by_cases hlk : k < p
            · have hdk : decide (k < p) = true := decide_eq_true hlk
              have hx := HC.out (off + k) wr (HPk.out k hlk) HB.out
              rw [← at_addr] at hx
              have hlen := rowL_length p (areaS W p l x y (m * n) (q + 1)) (areaS W p l x y (m * n) q) k
              have hy := Kd.R_celln 0 HO.out (k : Int) (by omega) (by omega)
              rw [Int.toNat_natCast] at hy
              have hy1 : wr.cell? ⟨g, k, none⟩ = some (.int .i64 (rd (rowL p (areaS W p l x y (m * n) (q + 1)) (areaS W p l x y (m * n) q) k) (k : Int))) := hy.1
              rw [rowL_rd p _ _ k hlk] at hy1
              have hy2 := hy.2
              clear hy hlen
              have z2 := (HWS.out k).2.1
              have z3 := (HWS.out k).2.2
              have HST := Aside0.mk (rowL_set p (areaS W p l x y (m * n) (q + 1)) (areaS W p l x y (m * n) q) k)
              generalize areaS W p l x y (m * n) (q + 1) k = s1 at z3 HST
              generalize areaS W p l x y (m * n) q k = s0 at z3 hy1
              generalize rd l ((off + k : Nat) : Int) = v0 at hx z2 z3
              generalize cA * cB = ar at z2 z3
              have Z2 := Aside0.mk z2
              have Z3 := Aside0.mk z3
              clear z2 z3
              go_wp2
              rw [Z2.out, Z3.out]
              have hP := Kd.R_putg HO.out (k : Int) s1
              rw [Int.toNat_natCast, HST.out] at hP
              have HB5 := Aside0.mk (below_set (v := .int .i64 s1) (j := k) HB.out (Kd.R_base HO.out g rfl))
              have HO5 := Aside0.mk hP.1
              clear hP hx hy1 hy2 HO HB
              go_roundw
              case rel => exact ⟨k + 1, by omega, by go_num, HO5, HB5⟩
              case measure => simp [intOf]; omega
            · obtain rfl : k = p := by omega
              have hdk : decide (k < k) = false := decide_eq_false (by omega)
              go_wp2
              go_roundw
              case rel => exact ⟨i + 1, by omega, by go_num, ⟨by rw [show j * W + (i + 1) = q + 1 by have := HQ.out; omega, ← rowL_full]; exact HO.out⟩, HB⟩
              case measure => simp [intOf]; omega
        · obtain rfl : i = W := by omega
          have hdi : decide (i < i) = false := decide_eq_false (by omega)
          go_wp2
          go_roundw
          case rel => exact ⟨j + 1, by omega, by go_num, ⟨by rw [Nat.succ_mul]; exact HO.out⟩, HB⟩
          case measure => simp [intOf]; omega
    · obtain rfl : j = H := by omega
      have hdj : decide (j < j) = false := decide_eq_false (by omega)
      go_wp2
      go_loopw [66] (fun i_ wr => ∃ k : Nat, k ≤ p ∧ i_ = .int .i64 k ∧ Aside0 (Kd.R (Kd.int .i64) 3 wr w.heap.size (fun _ => True) (.slice (some ⟨g, 0, none⟩) p cap) (rowL p (halfN W p l x y) (areaS W p l x y (m * n) (j * W)) k)) ∧ Aside0 (Below w.heap.size w wr)) (fun i_ _ => p - (intOf i_).toNat)
      case atStart => exact ⟨0, by omega, rfl, ⟨by rw [rowL_none]; exact HO.out⟩, HB⟩
      case round =>
        clear HO HB
        obtain ⟨k, hk, rfl, HO, HB⟩ := hrel
        by_cases hlk : k < p
        · have hdk : decide (k < p) = true := decide_eq_true hlk
          have hlen := rowL_length p (halfN W p l x y) (areaS W p l x y (m * n) (j * W)) k
          have hy := Kd.R_celln 0 HO.out (k : Int) (by omega) (by omega)
          rw [Int.toNat_natCast] at hy
          have hy1 : wr.cell? ⟨g, k, none⟩ = some (.int .i64 (rd (rowL p (halfN W p l x y) (areaS W p l x y (m * n) (j * W)) k) (k : Int))) := hy.1
          rw [rowL_rd p _ _ k hlk] at hy1
          clear hy hlen
          have HST := Aside0.mk (rowL_set p (halfN W p l x y) (areaS W p l x y (m * n) (j * W)) k)
          have HRk := Aside0.mk (HRND.out k)
          have hc0_ := (HI0.out.below HB.out).c0
          have hc1_ := (HI0.out.below HB.out).c1
          generalize halfN W p l x y k = s1 at HST HRk
          generalize areaS W p l x y (m * n) (j * W) k = s0 at hy1 HRk
          go_wp2_with (go_at_call 19; rw [GWH.out]; refine (HRk.out _).mono ?_; rintro e w4 ⟨rfl, hb⟩; have HB4 := Aside0.mk (below_step HB.out hb); have HO4 := Aside0.mk (Kd.R_below HO.out hb); have hy4 := (Kd.R_celln 0 (Kd.R_below HO.out hb) (k : Int) (by omega) (by omega)); rw [Int.toNat_natCast] at hy4; have hy5 := hy4.1; have hy6 := hy4.2; clear hb hy4)
          have hP := Kd.R_putg HO4.out (k : Int) s1
          rw [Int.toNat_natCast, HST.out] at hP
          have HB5 := Aside0.mk (below_set (v := .int .i64 s1) (j := k) HB4.out (Kd.R_base HO4.out g rfl))
          have HO5 := Aside0.mk hP.1
          clear hP hy1 hy5 hy6 HO HB HO4 HB4
          go_roundw
          case rel => exact ⟨k + 1, by omega, by go_num, HO5, HB5⟩
          case measure => simp [intOf]; omega
        · obtain rfl : k = p := by omega
          have hdk : decide (k < k) = false := decide_eq_false (by omega)
          go_wp2
          go_ret
          have hC := (Kd.R_reads' HO.out).2.2
          rw [rowL_full, List.length_map, List.length_range] at hC
          have hlen := halfL_length W k l x y k
          refine ⟨some ⟨g, 0, none⟩, cap, by rw [hlen]; rfl, ?_, HB.out⟩
          rw [halfL_length]
          exact hC
/-- ScaleArea to half the width and height. -/
def HalfSize (a0 a1 a2 : Int) (l : List Int) (a3 a4 : Int) : Prop := ImgOk a0 a1 a2 l ∧ a0 = 2 * a3 ∧ a1 = 2 * a4
instance (a0 a1 a2 : Int) (l : List Int) (a3 a4 : Int) : Decidable (HalfSize a0 a1 a2 l a3 a4) := by unfold HalfSize; exact inferInstance
def impl_ScaleArea.f (a0_0 : Int) (a0_1 : Int) (a0_2 : Int) (l0_3 : List Int) (a1 : Int) (a2 : Int) : Option (Int × Int × Int × List Int) := if HalfSize a0_0 a0_1 a0_2 l0_3 a1 a2 then some (a1, a2, a0_2, pixelsUpto (fun x y => halfL a0_0.toNat a0_2.toNat l0_3 x y a0_2.toNat) a1.toNat (a1.toNat * a2.toNat)) else none
set_option maxHeartbeats 8000000 in
set_option maxRecDepth 100000 in
theorem impl_ScaleArea.yes (W H p : Nat) (ad : Addr) (c : Nat) (l : List Int) (m n : Nat) (w : World) (hr : Kd.C (Kd.int .i64) w (some ad) l.length l) (hc : l.length ≤ c) (h : ImgOk W H p l) (hl : l.length = W * H * p) (hW0 : 1 ≤ W) (hH0 : 1 ≤ H) (hp0 : 1 ≤ p) (hW1 : W ≤ 16) (hH1 : H ≤ 16) (hp1 : p ≤ 4) (hw2 : (W : Int) = 2 * (m : Int)) (hh2 : (H : Int) = 2 * (n : Int)) (hs1' : 1 ≤ (m : Int) ∧ (m : Int) ≤ 16) (hs2' : 1 ≤ (n : Int) ∧ (n : Int) ≤ 16) :
    Calls Try.prog 8 #[.agg #[.int .i64 W, .int .i64 H, .int .i64 p, .slice (some ad) l.length c], .int .i64 m, .int .i64 n] w fun e w' => ∃ v : Value, e = .returned (.agg #[.int .i64 m, .int .i64 n, .int .i64 p, v]) ∧ Kd.R (Kd.int .i64) 3 w' w.heap.size (fun _ => True) v (pixelsUpto (fun x y => halfL W p l x y p) m (m * n)) ∧ Below w.heap.size w w' := by
  have HV : Aside0 (∀ W' : World, Below w.heap.size w W' → Calls Try.prog 15 #[.agg #[.int .i64 W, .int .i64 H, .int .i64 p, .slice (some ad) l.length c]] W' fun e w' => e = .returned (.bool true) ∧ Below W'.heap.size W' w') := ⟨fun W' hW => isImage_true h (some ad) c W' (Kd.C_below hr hW) hc⟩
  have hs1 : Aside0 (impl_isSide.f m = some true) := ⟨by rw [impl_isSide.eq, decide_eq_true hs1']⟩
  have hs2 : Aside0 (impl_isSide.f n = some true) := ⟨by rw [impl_isSide.eq, decide_eq_true hs2']⟩
  have HM : Aside0 (∀ W' : World, Below w.heap.size w W' → IsImg W' w.heap.size W H p (.slice (some ad) l.length c) → W'.cell? ⟨w.heap.size + 1, 0, none⟩ = some (.int .i64 (m : Int)) → W'.cell? ⟨w.heap.size + 2, 0, none⟩ = some (.int .i64 (n : Int)) → Calls Try.prog 16 #[.int .i64 (m : Nat), .int .i64 (n : Nat), .int .i64 p, .func (.func 25) #[] #[.pointer (some ⟨w.heap.size, 0, none⟩), .pointer (some ⟨w.heap.size + 1, 0, none⟩), .pointer (some ⟨w.heap.size + 2, 0, none⟩)]] W' fun e w' => ∃ v : Value, e = .returned (.agg #[.int .i64 (m : Nat), .int .i64 (n : Nat), .int .i64 p, v]) ∧ Kd.R (Kd.int .i64) 3 w' W'.heap.size (fun _ => True) v (pixelsUpto (fun x y => halfL W p l x y p) (m) ((m) * (n))) ∧ Below W'.heap.size W' w') :=
    ⟨fun W' hW hI f1 f2 => impl_imageBy.any 25 _ #[.pointer (some ⟨w.heap.size, 0, none⟩), .pointer (some ⟨w.heap.size + 1, 0, none⟩), .pointer (some ⟨w.heap.size + 2, 0, none⟩)] (fun x y => halfL W p l x y p) Try.func25 (by kernel_rfl) rfl (m) (n) p W' (by omega) (by omega) (fun x y hx hy => by rw [halfL_length]; omega) (fun x y w' hx hy hb => (impl_ScaleArea_1.any x y m n W H p (w.heap.size + 1) (w.heap.size + 2) hx hy (by omega) (by omega) ad c l w.heap.size w' (hI.below hb) (Kd.C_below hr (below_step hW hb)) hc hl hp0 hW1 hH1 hp1 h.2.2.2.2 (pw_cell_below hb f1) (pw_cell_below hb f2)))⟩
  have HB0 := Aside0.mk (allocs_below [.cells #[.int .i64 W, .int .i64 H, .int .i64 p, .slice (some ad) l.length c] 25, .cells #[.int .i64 m] 3, .cells #[.int .i64 n] 3, .cells #[.int .i64 0, .int .i64 0, .int .i64 0, .slice none 0 0] 25] w)
  have HI0 : Aside0 (IsImg (allocs w [.cells #[.int .i64 W, .int .i64 H, .int .i64 p, .slice (some ad) l.length c] 25, .cells #[.int .i64 m] 3, .cells #[.int .i64 n] 3, .cells #[.int .i64 0, .int .i64 0, .int .i64 0, .slice none 0 0] 25]) w.heap.size W H p (.slice (some ad) l.length c)) := ⟨allocs_img _ w 0 _ _ _ _ rfl⟩
  have hi1_0 : (allocs w [.cells #[.int .i64 W, .int .i64 H, .int .i64 p, .slice (some ad) l.length c] 25, .cells #[.int .i64 m] 3, .cells #[.int .i64 n] 3, .cells #[.int .i64 0, .int .i64 0, .int .i64 0, .slice none 0 0] 25]).cell? ⟨w.heap.size + 1, 0, none⟩ = some (.int .i64 m) := allocs_cell _ w 1 _ _ rfl
  have hi2_0 : (allocs w [.cells #[.int .i64 W, .int .i64 H, .int .i64 p, .slice (some ad) l.length c] 25, .cells #[.int .i64 m] 3, .cells #[.int .i64 n] 3, .cells #[.int .i64 0, .int .i64 0, .int .i64 0, .slice none 0 0] 25]).cell? ⟨w.heap.size + 2, 0, none⟩ = some (.int .i64 n) := allocs_cell _ w 2 _ _ rfl
  have HZ0 : Aside0 (IsImg (allocs w [.cells #[.int .i64 W, .int .i64 H, .int .i64 p, .slice (some ad) l.length c] 25, .cells #[.int .i64 m] 3, .cells #[.int .i64 n] 3, .cells #[.int .i64 0, .int .i64 0, .int .i64 0, .slice none 0 0] 25]) (w.heap.size + 3) 0 0 0 (.slice none 0 0)) := ⟨allocs_img _ w 3 _ _ _ _ rfl⟩
  have hu := Try.underlying25
  clear hr hc h hl hw2 hh2 hs1' hs2'
  go_enter Try.func8, Try.ntmps8
  go_wp2_with (first
    | (refine wpList_load_img rfl _ rfl w.heap.size W H p _ rfl HI0.out ?_)
    | (go_at_call 15; refine (HV.out _ HB0.out).mono ?_; rintro e w1 ⟨rfl, hb⟩; have HI1 := Aside0.mk (HI0.out.below hb); have hc0_1 := HI1.out.c0; have hc1_1 := HI1.out.c1; have hc2_1 := HI1.out.c2; have hi1_1 := pw_cell_below hb hi1_0; have hi2_1 := pw_cell_below hb hi2_0; have HZ1 := Aside0.mk (HZ0.out.below hb); have HB1 := Aside0.mk (below_step HB0.out hb); clear hb)
    | (refine wpList_load_img rfl _ rfl w.heap.size W H p _ rfl HI1.out ?_)
    | (go_at_call_of 24 (Value.int .i64 m); refine (impl_isSide.calls m true _ hs1.out).mono ?_; rintro e w2 ⟨rfl, hd⟩; have hb := hd.below; clear hd; have HI2 := Aside0.mk (HI1.out.below hb); have hc0_2 := HI2.out.c0; have hc1_2 := HI2.out.c1; have hc2_2 := HI2.out.c2; have hi1_2 := pw_cell_below hb hi1_1; have hi2_2 := pw_cell_below hb hi2_1; have HZ2 := Aside0.mk (HZ1.out.below hb); have HB2 := Aside0.mk (below_step HB1.out hb); clear hb)
    | (refine wpList_load_img rfl _ rfl w.heap.size W H p _ rfl HI2.out ?_)
    | (go_at_call_of 24 (Value.int .i64 n); refine (impl_isSide.calls n true _ hs2.out).mono ?_; rintro e w3 ⟨rfl, hd⟩; have hb := hd.below; clear hd; have HI3 := Aside0.mk (HI2.out.below hb); have hc0_3 := HI3.out.c0; have hc1_3 := HI3.out.c1; have hc2_3 := HI3.out.c2; have hi1_3 := pw_cell_below hb hi1_2; have hi2_3 := pw_cell_below hb hi2_2; have HZ3 := Aside0.mk (HZ2.out.below hb); have HB3 := Aside0.mk (below_step HB2.out hb); clear hb)
    | (refine wpList_load_img rfl _ rfl w.heap.size W H p _ rfl HI3.out ?_)
    | (go_at_call 16; refine (HM.out _ HB3.out HI3.out hi1_3 hi2_3).mono ?_; rintro e w4 ⟨v, rfl, ho, hb⟩; have HZ4 := Aside0.mk (HZ3.out.below hb); have HO := Aside0.mk (Kd.R_lower ho (below_size HB3.out)); have HB4 := Aside0.mk (below_step HB3.out hb); clear hb ho; have H1 := Aside0.mk (own_one HO.out))
    | (refine wpList_store_img rfl _ _ rfl _ 0 0 0 m n p _ _ rfl rfl H1.out HZ4.out ?_))
  refine bodyPost_ret (results_cell_row rfl _ _ (w.heap.size + 3) _ _ _ _ rfl (HZ4.out.row m n p _).out Try.underlying25 rfl img_size) rfl ⟨v, rfl, ?_, below_putRow HB4.out _ _ (by omega)⟩
  exact Kd.R_mono (Kd.R_step (Kd.R_types HO.out HZ4.out.out (by decide)) (fun j hj _ => setRow_other _ _ _ _ hj.2)) (fun _ _ => trivial)
theorem impl_ScaleArea.calls (a0_0 : Int) (a0_1 : Int) (a0_2 : Int) (A0_3 : Option Addr) (c0_3 : Nat) (l0_3 : List Int) (a1 : Int) (a2 : Int) (r1 : Int) (r2 : Int) (r3 : Int) (r4 : List Int) (w : World) (hr0_3 : Kd.C (Kd.int .i64) w A0_3 l0_3.length l0_3) (hc0_3 : l0_3.length ≤ c0_3) (h : impl_ScaleArea.f a0_0 a0_1 a0_2 l0_3 a1 a2 = some (r1, r2, r3, r4)) :
    Calls Try.prog 8 #[.agg #[.int .i64 a0_0, .int .i64 a0_1, .int .i64 a0_2, .slice A0_3 l0_3.length c0_3], .int .i64 a1, .int .i64 a2] w fun e w' => ∃ v3_ : Value, e = .returned (.agg #[.int .i64 r1, .int .i64 r2, .int .i64 r3, v3_]) ∧ Kd.R (Kd.int .i64) 3 w' w.heap.size (fun _ => True) v3_ r4 ∧ Below w.heap.size w w' := by
  unfold impl_ScaleArea.f at h
  by_cases hk : HalfSize a0_0 a0_1 a0_2 l0_3 a1 a2
  · rw [if_pos hk] at h
    simp only [Option.some.injEq, Prod.mk.injEq] at h
    obtain ⟨rfl, rfl, rfl, rfl⟩ := h
    obtain ⟨hi, h1, h2⟩ := hk
    obtain ⟨W, H, p, rfl, rfl, rfl, hl, b1, b2, b3, b4, b5, b6⟩ := hi.nats
    obtain ⟨m, rfl⟩ := Int.eq_ofNat_of_zero_le (show 0 ≤ a1 by omega)
    obtain ⟨n, rfl⟩ := Int.eq_ofNat_of_zero_le (show 0 ≤ a2 by omega)
    obtain ⟨ad, rfl, _⟩ := hr0_3.2.2 (by have := hi.len.1; omega)
    exact impl_ScaleArea.yes W H p ad c0_3 l0_3 m n w hr0_3 hc0_3 hi hl b1 b2 b3 b4 b5 b6 h1 h2 (by omega) (by omega)
  · rw [if_neg hk] at h
    cases h

end Go.Proofs.Ytebnppmojkgndaa.Print
