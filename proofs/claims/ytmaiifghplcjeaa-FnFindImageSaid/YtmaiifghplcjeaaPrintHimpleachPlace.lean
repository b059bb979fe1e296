-- laid by hp.py (a program of this work over the kit's print), with contracts by hand for what the print does not take
import Derived.Test.YtmaiifghplcjeaaPrint0
import Derived.Test.YtmaiifghplcjeaaPrintHx0
namespace Go.Proofs.Ytmaiifghplcjeaa.Print
open Go.RowKit Go.Proofs.YtmaiifghplcjeaaW.PrintWords Go.Proofs.YtmaiifghplcjeaaW.PrintLast Go.Proofs.YtmaiifghplcjeaaW.PrintMore
attribute [local go_sem] max2_int min2_int max_two min_two max_three min_three max_four min_four   -- for this text's walks alone
set_option linter.unusedVariables false
set_option linter.unusedSimpArgs false

--SNIP impl_eachPlace
/-! ### The places of a part in an image -/
/-- One square of a gap: number t of the part. -/
def gapT (W p u : Nat) (l q : List Int) (x y t : Nat) : Int :=
  (rd q (t : Int) - rd l ((((y + t / p / u) * W + (x + t / p % u)) * p + t % p : Nat) : Int)) * (rd q (t : Int) - rd l ((((y + t / p / u) * W + (x + t / p % u)) * p + t % p : Nat) : Int))
def gapU (W p u : Nat) (l q : List Int) (x y : Nat) : Nat → Int
  | 0 => 0
  | n + 1 => gapU W p u l q x y n + gapT W p u l q x y n
theorem gapT_at (W p u : Nat) (l q : List Int) (x y i j k : Nat) (hi : i < u) (hk : k < p) : gapT W p u l q x y ((j * u + i) * p + k) = (rd q (((j * u + i) * p + k : Nat) : Int) - rd l ((((y + j) * W + (x + i)) * p + k : Nat) : Int)) * (rd q (((j * u + i) * p + k : Nat) : Int) - rd l ((((y + j) * W + (x + i)) * p + k : Nat) : Int)) := by
  have e1 : ((j * u + i) * p + k) / p = j * u + i := by rw [Nat.mul_comm, Nat.mul_add_div (by omega), Nat.div_eq_of_lt hk, Nat.add_zero]
  have e2 : ((j * u + i) * p + k) % p = k := by rw [Nat.mul_comm, Nat.mul_add_mod, Nat.mod_eq_of_lt hk]
  have e3 : (j * u + i) / u = j := by rw [Nat.mul_comm, Nat.mul_add_div (by omega), Nat.div_eq_of_lt hi, Nat.add_zero]
  have e4 : (j * u + i) % u = i := by rw [Nat.mul_comm, Nat.mul_add_mod, Nat.mod_eq_of_lt hi]
  unfold gapT
  rw [e1, e2, e3, e4]
theorem sq_bounds {a b : Int} (ha : 0 ≤ a ∧ a ≤ 255) (hb : 0 ≤ b ∧ b ≤ 255) : 0 ≤ (a - b) * (a - b) ∧ (a - b) * (a - b) ≤ 65025 := by
  rcases Int.le_total 0 (a - b) with h | h
  · exact ⟨Int.mul_nonneg h h, Int.mul_le_mul (a := a - b) (b := a - b) (c := 255) (d := 255) (by omega) (by omega) h (by omega)⟩
  · have e : (a - b) * (a - b) = (b - a) * (b - a) := by rw [show a - b = -(b - a) by omega, Int.neg_mul_neg]
    rw [e]
    exact ⟨Int.mul_nonneg (by omega) (by omega), Int.mul_le_mul (a := b - a) (b := b - a) (c := 255) (d := 255) (by omega) (by omega) (by omega) (by omega)⟩
theorem rd_bytes {l : List Int} (h : ∀ x ∈ l, 0 ≤ x ∧ x ≤ 255) (i : Nat) : 0 ≤ rd l (i : Int) ∧ rd l (i : Int) ≤ 255 := by
  by_cases hi : i < l.length
  · have e : rd l (i : Int) = l[i] := by simp [rd, List.getD_eq_getElem?_getD, List.getElem?_eq_getElem hi]
    rw [e]
    exact h _ (List.getElem_mem hi)
  · have e : rd l (i : Int) = 0 := by simp [rd, List.getD_eq_getElem?_getD, List.getElem?_eq_none (show l.length ≤ i by omega)]
    omega
theorem gapU_bounds (W p u : Nat) (l q : List Int) (x y : Nat) (hl : ∀ z ∈ l, 0 ≤ z ∧ z ≤ 255) (hq : ∀ z ∈ q, 0 ≤ z ∧ z ≤ 255) (n : Nat) : 0 ≤ gapU W p u l q x y n ∧ gapU W p u l q x y n ≤ 65025 * n := by
  induction n with
  | zero => exact ⟨Int.le_refl _, Int.le_refl _⟩
  | succ n ih =>
    have h := sq_bounds (rd_bytes hq n) (rd_bytes hl (((y + n / p / u) * W + (x + n / p % u)) * p + n % p))
    show 0 ≤ gapU W p u l q x y n + gapT W p u l q x y n ∧ gapU W p u l q x y n + gapT W p u l q x y n ≤ 65025 * ((n + 1 : Nat) : Int)
    unfold gapT
    omega
/-- All places visited in order, what is told handed on. -/
def placeFold {σ : Type} (step : σ → Nat → Nat → Int → σ) (g : Nat → Nat → Int) (cols : Nat) (s0 : σ) : Nat → σ
  | 0 => s0
  | n + 1 => step (placeFold step g cols s0 n) (n % cols) (n / cols) (g (n % cols) (n / cols))
theorem placeFold_at {σ : Type} (step : σ → Nat → Nat → Int → σ) (g : Nat → Nat → Int) (cols : Nat) (s0 : σ) (x y : Nat) (hx : x < cols) : placeFold step g cols s0 (cols * y + x + 1) = step (placeFold step g cols s0 (cols * y + x)) x y (g x y) := by
  show step (placeFold step g cols s0 (cols * y + x)) ((cols * y + x) % cols) ((cols * y + x) / cols) (g ((cols * y + x) % cols) ((cols * y + x) / cols)) = _
  rw [Nat.mul_add_mod, Nat.mod_eq_of_lt hx, Nat.mul_add_div (by omega), Nat.div_eq_of_lt hx, Nat.add_zero]
/-- Blocks from B on stay. -/
def StayB (B : Nat) (w w' : World) : Prop := w.heap.size ≤ w'.heap.size ∧ ∀ i, B ≤ i → i < w.heap.size → w'.heap[i]? = w.heap[i]?
theorem IsImg.stay {B : Nat} {w w' : World} {b : Nat} {a0 a1 a2 : Int} {v : Value} (h : IsImg w b a0 a1 a2 v) (hs : StayB B w w') (hb : B ≤ b) : IsImg w' b a0 a1 a2 v := ⟨(hs.2 b hb h.lt).trans h.out⟩
theorem place_in {W H u v x y i j p k : Nat} (hx : x < W - u + 1) (hy : y < H - v + 1) (hu : u ≤ W) (hv : v ≤ H) (hi : i < u) (hj : j < v) (hk : k < p) : ((y + j) * W + (x + i)) * p + k < W * H * p := by
  have := pix_lt (W := W) (H := H) (x := x + i) (y := y + j) (p := p) (by omega) (by omega)
  omega
set_option maxHeartbeats 8000000 in
set_option maxRecDepth 100000 in
theorem impl_eachPlace.any {σ : Type} (K : FuncId) (fn : Func) (caps : Array Value) (hK : Try.prog.funcs[K]? = some fn) (hname : (fn.name == "runtime.NumGoroutine") = false) (hb : fn.body.isSome = true)
    (W H p u v : Nat) (ad aq : Addr) (c cq : Nat) (l q : List Int) (w0 w : World) (hW : W ≤ 16) (hH : H ≤ 16) (hp0 : 1 ≤ p) (hp : p ≤ 4) (hu0 : 1 ≤ u) (hu : u ≤ W) (hv0 : 1 ≤ v) (hv : v ≤ H)
    (hr : Kd.C (Kd.int .i64) w0 (some ad) l.length l) (hc : l.length ≤ c) (hl : l.length = W * H * p) (hby : ∀ z ∈ l, 0 ≤ z ∧ z ≤ 255)
    (hrq : Kd.C (Kd.int .i64) w0 (some aq) q.length q) (hcq : q.length ≤ cq) (hlq : q.length = u * v * p) (hbq : ∀ z ∈ q, 0 ≤ z ∧ z ≤ 255)
    (step : σ → Nat → Nat → Int → σ) (Inv : σ → World → Prop) (s0 : σ)
    (hInv : ∀ s w1 w2, Inv s w1 → Below w1.heap.size w1 w2 → Inv s w2)
    (hcall : ∀ (s : σ) (x y : Nat) (n : Int) (w1 : World), 0 ≤ n → n ≤ 100000000 → w.heap.size ≤ w1.heap.size → Inv s w1 → Below w0.heap.size w0 w1 → Calls Try.prog K (#[.agg #[.int .i64 x, .int .i64 y, .int .i64 u, .int .i64 v], .int .i64 n] ++ caps) w1 fun e w2 => e = .returned (.tuple #[]) ∧ Inv (step s x y n) w2 ∧ Below w0.heap.size w0 w2 ∧ StayB w.heap.size w1 w2)
    (h0 : Inv s0 w) (hw : Below w0.heap.size w0 w) :
    Calls Try.prog 63 #[.agg #[.int .i64 W, .int .i64 H, .int .i64 p, .slice (some ad) l.length c], .agg #[.int .i64 u, .int .i64 v, .int .i64 p, .slice (some aq) q.length cq], .func (.func K) #[] caps] w fun e w' => e = .returned (.tuple #[]) ∧ Inv (placeFold step (fun x y => gapU W p u l q x y (u * v * p)) (W - u + 1) s0 ((W - u + 1) * (H - v + 1))) w' ∧ Below w0.heap.size w0 w' := by
  obtain ⟨R, hR⟩ : ∃ R, R = H - v + 1 := ⟨_, rfl⟩
  obtain ⟨C, hC⟩ : ∃ C, C = W - u + 1 := ⟨_, rfl⟩
  rw [← hR, ← hC]
  have hR1 : R + v ≤ H + 1 := by omega
  have hR2 : H + 1 ≤ R + v := by omega
  have hC1 : C + u ≤ W + 1 := by omega
  have hC2 : W + 1 ≤ C + u := by omega
  clear hR hC
  have HF := Aside0.mk hcall
  have HV := Aside0.mk hInv
  have hcall' : ∀ (args : Array Value) (W : World), (callFunc K args).run Try.prog W = .ok (.enter K args) W := fun args W => enters_ hK hname hb args W
  have HL : Aside0 (∀ (n : Nat) (w1 : World), n < l.length → Below w0.heap.size w0 w1 → w1.cell? (ad.add n) = some (.int .i64 (rd l (n : Int)))) := ⟨fun n w1 hn hb => by
    obtain ⟨ad', e', hx⟩ := Kd.at_int (Kd.C_below hr hb) (n : Int) (by omega) (by omega)
    obtain rfl : ad = ad' := by injection e'
    rwa [Int.toNat_natCast] at hx⟩
  have HQ : Aside0 (∀ (n : Nat) (w1 : World), n < q.length → Below w0.heap.size w0 w1 → w1.cell? (aq.add n) = some (.int .i64 (rd q (n : Int)))) := ⟨fun n w1 hn hb => by
    obtain ⟨ad', e', hx⟩ := Kd.at_int (Kd.C_below hrq hb) (n : Int) (by omega) (by omega)
    obtain rfl : aq = ad' := by injection e'
    rwa [Int.toNat_natCast] at hx⟩
  have HAL : Aside0 (∀ (x y : Nat) (w1 : World), x < W → y < H → Calls Try.prog 56 #[.agg #[.int .i64 W, .int .i64 H, .int .i64 p, .slice (some ad) l.length c], .int .i64 x, .int .i64 y] w1 fun e w' => e = .returned (.slice (some (ad.add ((y * W + x) * p))) p (c - (y * W + x) * p)) ∧ Below w1.heap.size w1 w') := ⟨fun x y w1 hx hy => impl_Image_at.eq W H p ad c l x y w1 hc hl hW hH hp hp0 hx hy⟩
  have HAQ : Aside0 (∀ (x y : Nat) (w1 : World), x < u → y < v → Calls Try.prog 56 #[.agg #[.int .i64 u, .int .i64 v, .int .i64 p, .slice (some aq) q.length cq], .int .i64 x, .int .i64 y] w1 fun e w' => e = .returned (.slice (some (aq.add ((y * u + x) * p))) p (cq - (y * u + x) * p)) ∧ Below w1.heap.size w1 w') := ⟨fun x y w1 hx hy => impl_Image_at.eq u v p aq cq q x y w1 hcq hlq (by omega) (by omega) hp hp0 hx hy⟩
  have HG : Aside0 (∀ x y n, 0 ≤ gapU W p u l q x y n ∧ gapU W p u l q x y n ≤ 65025 * n) := ⟨fun x y n => gapU_bounds W p u l q x y hby hbq n⟩
  have HLB := Aside0.mk (fun i => rd_bytes hby i)
  have HQB := Aside0.mk (fun i => rd_bytes hbq i)
  have HLL := Aside0.mk hl
  have HLQ := Aside0.mk hlq
  have H0 := Aside0.mk h0
  have HB0 := Aside0.mk hw
  have hu26 := Try.underlying26
  have hu40 := Try.underlying40
  have gy : (H : Int) - (v : Int) + 1 = (R : Int) := by omega
  have gx : (W : Int) - (u : Int) + 1 = (C : Int) := by omega
  have hp1024 : u * v * p ≤ 1024 := by
    have h1 : u * v ≤ 16 * 16 := Nat.mul_le_mul (by omega) (by omega)
    exact Nat.mul_le_mul h1 hp
  clear hcall hInv hr hrq hc hcq hl hlq hby hbq h0 hw hK hname hb
  go_enter Try.func63, Try.ntmps63
  have HI0 := Aside0.mk (allocs_img [.cells #[.int .i64 W, .int .i64 H, .int .i64 p, .slice (some ad) l.length c] 26, .cells #[.int .i64 u, .int .i64 v, .int .i64 p, .slice (some aq) q.length cq] 26] w 0 _ _ _ _ rfl)
  have HP0 := Aside0.mk (allocs_img [.cells #[.int .i64 W, .int .i64 H, .int .i64 p, .slice (some ad) l.length c] 26, .cells #[.int .i64 u, .int .i64 v, .int .i64 p, .slice (some aq) q.length cq] 26] w 1 _ _ _ _ rfl)
  have HB1 := Aside0.mk (below_then HB0.out HB0.out.size (allocs_below [.cells #[.int .i64 W, .int .i64 H, .int .i64 p, .slice (some ad) l.length c] 26, .cells #[.int .i64 u, .int .i64 v, .int .i64 p, .slice (some aq) q.length cq] 26] w))
  have HV1 := Aside0.mk (HV.out _ _ _ H0.out (allocs_below [.cells #[.int .i64 W, .int .i64 H, .int .i64 p, .slice (some ad) l.length c] 26, .cells #[.int .i64 u, .int .i64 v, .int .i64 p, .slice (some aq) q.length cq] 26] w))
  have hc0_0 := HI0.out.c0
  have hc1_0 := HI0.out.c1
  have hd0_0 := HP0.out.c0
  have hd1_0 := HP0.out.c1
  go_wp2
  go_loopw [20] (fun i wr => ∃ y : Nat, y ≤ R ∧ i = .int .i64 y ∧ Aside0 (IsImg wr w.heap.size W H p (.slice (some ad) l.length c)) ∧ Aside0 (IsImg wr (w.heap.size + 1) u v p (.slice (some aq) q.length cq)) ∧ Aside0 (Inv (placeFold step (fun x y => gapU W p u l q x y (u * v * p)) (C) s0 ((C) * y)) wr) ∧ Aside0 (Below w0.heap.size w0 wr)) (fun i _ => R - (intOf i).toNat)
  case atStart => exact ⟨0, by omega, rfl, HI0, HP0, HV1, HB1⟩
  case round =>
    clear HI0 HP0 HV1 HB1 hc0_0 hc1_0 hd0_0 hd1_0
    obtain ⟨y, hy, rfl, HI, HP, HS, HB⟩ := hrel
    by_cases hlt : y < R
    · obtain ⟨wo, rfl⟩ : ∃ wo : World, wo = wr := ⟨_, rfl⟩
      have hdy : decide (y < R) = true := decide_eq_true hlt
      have hc0_0 := HI.out.c0
      have hd0_0 := HP.out.c0
      go_wp2
      go_loopw [29] (fun i wr => ∃ x : Nat, x ≤ C ∧ i = .int .i64 x ∧ Aside0 (IsImg wr w.heap.size W H p (.slice (some ad) l.length c)) ∧ Aside0 (IsImg wr (w.heap.size + 1) u v p (.slice (some aq) q.length cq)) ∧ Aside0 (Inv (placeFold step (fun x y => gapU W p u l q x y (u * v * p)) (C) s0 ((C) * y + x)) wr) ∧ Aside0 (Below w0.heap.size w0 wr)) (fun i _ => C - (intOf i).toNat)
      case atStart => exact ⟨0, by omega, rfl, HI, HP, HS, HB⟩
      case round =>
        clear HI HP HS HB hc0_0 hd0_0
        obtain ⟨x, hx, rfl, HI, HP, HS, HB⟩ := hrel
        by_cases hlx : x < C
        · obtain ⟨wo, rfl⟩ : ∃ wo : World, wo = wr := ⟨_, rfl⟩
          have hdx : decide (x < C) = true := decide_eq_true hlx
          have hd1_0 := HP.out.c1
          go_wp2
          go_loopw [8, 34] (fun g i wr => ∃ j : Nat, j ≤ v ∧ i = .int .i64 j ∧ g = .int .i64 (gapU W p u l q x y (j * u * p)) ∧ Aside0 (IsImg wr w.heap.size W H p (.slice (some ad) l.length c)) ∧ Aside0 (IsImg wr (w.heap.size + 1) u v p (.slice (some aq) q.length cq)) ∧ Aside0 (Inv (placeFold step (fun x y => gapU W p u l q x y (u * v * p)) (C) s0 ((C) * y + x)) wr) ∧ Aside0 (Below w0.heap.size w0 wr)) (fun _ i _ => v - (intOf i).toNat)
          case atStart => exact ⟨0, by omega, rfl, by simp [gapU], HI, HP, HS, HB⟩
          case round =>
            clear HI HP HS HB hd1_0
            obtain ⟨j, hj, rfl, rfl, HI, HP, HS, HB⟩ := hrel
            by_cases hlj : j < v
            · obtain ⟨wo, rfl⟩ : ∃ wo : World, wo = wr := ⟨_, rfl⟩
              have hdj : decide (j < v) = true := decide_eq_true hlj
              have hd0_0 := HP.out.c0
              go_wp2
              go_loopw [8, 39] (fun g i wr => ∃ n : Nat, n ≤ u ∧ i = .int .i64 n ∧ g = .int .i64 (gapU W p u l q x y ((j * u + n) * p)) ∧ Aside0 (IsImg wr w.heap.size W H p (.slice (some ad) l.length c)) ∧ Aside0 (IsImg wr (w.heap.size + 1) u v p (.slice (some aq) q.length cq)) ∧ Aside0 (Inv (placeFold step (fun x y => gapU W p u l q x y (u * v * p)) (C) s0 ((C) * y + x)) wr) ∧ Aside0 (Below w0.heap.size w0 wr)) (fun _ i _ => u - (intOf i).toNat)
              case atStart => exact ⟨0, by omega, rfl, rfl, HI, HP, HS, HB⟩
              case round =>
                clear HI HP HS HB hd0_0
                obtain ⟨n, hn, rfl, rfl, HI, HP, HS, HB⟩ := hrel
                by_cases hln : n < u
                · obtain ⟨wo, rfl⟩ : ∃ wo : World, wo = wr := ⟨_, rfl⟩
                  have hdn : decide (n < u) = true := decide_eq_true hln
                  have ex : IntKind.i64.wrap ((x : Int) + (n : Int)) = ((x + n : Nat) : Int) := by rw [show (x : Int) + (n : Int) = ((x + n : Nat) : Int) by omega]; exact i64_nat _ (by omega)
                  have ey : IntKind.i64.wrap ((y : Int) + (j : Int)) = ((y + j : Nat) : Int) := by rw [show (y : Int) + (j : Int) = ((y + j : Nat) : Int) by omega]; exact i64_nat _ (by omega)
                  go_wp2_with (first
                    | (refine wpList_load_img rfl _ rfl w.heap.size W H p _ rfl HI.out ?_)
                    | (refine wpList_load_img rfl _ rfl (w.heap.size + 1) u v p _ rfl HP2.out ?_)
                    | (go_at_call_of 56 (Value.agg #[.int .i64 W, .int .i64 H, .int .i64 p, .slice (some ad) l.length c]); refine (HAL.out (x + n) (y + j) _ (by omega) (by omega)).mono ?_; rintro e w2 ⟨rfl, hb⟩; have HI2 := Aside0.mk (HI.out.below hb); have HP2 := Aside0.mk (HP.out.below hb); have HS2 := Aside0.mk (HV.out _ _ _ HS.out hb); have HB2 := Aside0.mk (below_then HB.out HB.out.size hb); clear hb)
                    | (go_at_call_of 56 (Value.agg #[.int .i64 u, .int .i64 v, .int .i64 p, .slice (some aq) q.length cq]); refine (HAQ.out n j _ hln hlj).mono ?_; rintro e w3 ⟨rfl, hb⟩; have HI3 := Aside0.mk (HI2.out.below hb); have HP3 := Aside0.mk (HP2.out.below hb); have HS3 := Aside0.mk (HV.out _ _ _ HS2.out hb); have HB3 := Aside0.mk (below_then HB2.out HB2.out.size hb); clear hb))
                  clear ex ey HI HP HS HB HI2 HP2 HS2 HB2
                  go_loopw [8, 55] (fun g i wr => ∃ k : Nat, k ≤ p ∧ i = .int .i64 k ∧ g = .int .i64 (gapU W p u l q x y ((j * u + n) * p + k)) ∧ Aside0 (IsImg wr w.heap.size W H p (.slice (some ad) l.length c)) ∧ Aside0 (IsImg wr (w.heap.size + 1) u v p (.slice (some aq) q.length cq)) ∧ Aside0 (Inv (placeFold step (fun x y => gapU W p u l q x y (u * v * p)) (C) s0 ((C) * y + x)) wr) ∧ Aside0 (Below w0.heap.size w0 wr)) (fun _ i _ => p - (intOf i).toNat)
                  case atStart => exact ⟨0, by omega, rfl, rfl, HI3, HP3, HS3, HB3⟩
                  case round =>
                    clear HI3 HP3 HS3 HB3
                    obtain ⟨k, hk, rfl, rfl, HI, HP, HS, HB⟩ := hrel
                    by_cases hlk : k < p
                    · obtain ⟨wo, rfl⟩ : ∃ wo : World, wo = wr := ⟨_, rfl⟩
                      have hdk : decide (k < p) = true := decide_eq_true hlk
                      have b1 := HLB.out (((y + j) * W + (x + n)) * p + k)
                      have b2 := HQB.out ((j * u + n) * p + k)
                      have x1 := HL.out (((y + j) * W + (x + n)) * p + k) wo (by rw [HLL.out]; exact place_in (show x < W - u + 1 by omega) (show y < H - v + 1 by omega) hu hv hln hlj hlk) HB.out
                      have x2 := HQ.out ((j * u + n) * p + k) wo (by rw [HLQ.out]; have := pix_lt (W := u) (H := v) (x := n) (y := j) (p := p) hln hlj; omega) HB.out
                      rw [← at_addr] at x1 x2
                      have hT := gapT_at W p u l q x y n j k hln hlk
                      have b3 := sq_bounds b2 b1
                      have b4 := HG.out x y ((j * u + n) * p + k)
                      have b5 : (j * u + n) * p + k ≤ 1024 := by
                        have := pix_lt (W := u) (H := v) (x := n) (y := j) (p := p) hln hlj
                        omega
                      have HN : Aside0 (gapU W p u l q x y ((j * u + n) * p + (k + 1)) = gapU W p u l q x y ((j * u + n) * p + k) + gapT W p u l q x y ((j * u + n) * p + k)) := ⟨rfl⟩
                      rw [hT] at HN
                      clear hT
                      generalize hgg : gapU W p u l q x y ((j * u + n) * p + (k + 1)) = g2 at HN
                      generalize gapU W p u l q x y ((j * u + n) * p + k) = g1 at HN b4
                      have HGG := Aside0.mk hgg
                      clear hgg
                      generalize (j * u + n) * p = pq at x2 b2 b3 b4 b5 HN HGG
                      generalize ((y + j) * W + (x + n)) * p = pl at x1 b1 b3 HN
                      generalize rd q ((pq + k : Nat) : Int) = nq_ at x2 b2 b3 HN
                      generalize rd l ((pl + k : Nat) : Int) = nl_ at x1 b1 b3 HN
                      have hd : wrap64 ((nq_ - nl_) * (nq_ - nl_)) = (nq_ - nl_) * (nq_ - nl_) := by unfold wrap64; omega
                      generalize hsq : (nq_ - nl_) * (nq_ - nl_) = d at hd b3 HN
                      go_wp2
                      go_quiet (fail)
                      rw [← HN.out]
                      have HI2 := Aside0.mk (fun m => HI.out.drewN m)
                      have HP2 := Aside0.mk (fun m => HP.out.drewN m)
                      have HS2 := Aside0.mk (fun m => HV.out _ _ _ HS.out (pw_below_drewN (Below.refl _ _) m))
                      have HB2 := Aside0.mk (fun m => pw_below_drewN HB.out m)
                      clear HI HP HS HB
                      go_wp2
                      go_roundw
                      case rel => exact ⟨k + 1, by omega, by go_num, by rw [HGG.out], ⟨HI2.out _⟩, ⟨HP2.out _⟩, ⟨HS2.out _⟩, ⟨HB2.out _⟩⟩
                      case measure => simp [intOf]; omega
                    · obtain rfl : k = p := by omega
                      have hdk : decide (k < k) = false := decide_eq_false (by omega)
                      go_wp2
                      go_roundw
                      case rel => exact ⟨n + 1, by omega, by go_num, by rw [show (j * u + (n + 1)) * k = (j * u + n) * k + k by rw [← Nat.add_assoc, Nat.succ_mul]], HI, HP, HS, HB⟩
                      case measure => simp [intOf]; omega
                · obtain rfl : n = u := by omega
                  have hdn : decide (n < n) = false := decide_eq_false (by omega)
                  go_wp2
                  go_roundw
                  case rel => exact ⟨j + 1, by omega, by go_num, by rw [Nat.succ_mul], HI, HP, HS, HB⟩
                  case measure => simp [intOf]; omega
            · obtain rfl : j = v := by omega
              have hdj : decide (j < j) = false := decide_eq_false (by omega)
              have hd0_0 := HP.out.c0
              have hd1_0 := HP.out.c1
              have hgb := HG.out x y (j * u * p)
              have HGN : Aside0 (gapU W p u l q x y (j * u * p) = gapU W p u l q x y (u * j * p)) := ⟨by rw [Nat.mul_comm j u]⟩
              have hju : j * u * p ≤ 1024 := by rw [Nat.mul_comm j u]; exact hp1024
              have HST := Aside0.mk (placeFold_at step (fun x y => gapU W p u l q x y (u * j * p)) (C) s0 x y hlx)
              have HD : Aside0 (0 ≤ gapU W p u l q x y (j * u * p) ∧ gapU W p u l q x y (j * u * p) ≤ 100000000) := ⟨by omega⟩
              go_wp2_with (refine (HF.out _ x y (gapU W p u l q x y (j * u * p)) _ HD.out.1 HD.out.2 (by have := HI.out.lt; omega) HS.out HB.out).mono ?_; rintro e w4 ⟨rfl, hs, hb, hk⟩; have HI4 := Aside0.mk (HI.out.stay hk (Nat.le_refl _)); have HP4 := Aside0.mk (HP.out.stay hk (Nat.le_succ _)); have HS4 := Aside0.mk hs; have HB4 := Aside0.mk hb; clear hs hb hk)
              go_roundw
              case rel => exact ⟨x + 1, by omega, by go_num, HI4, HP4, ⟨by have h := HS4.out; rw [HGN.out] at h; rw [show (C) * y + (x + 1) = (C) * y + x + 1 by omega, HST.out]; exact h⟩, HB4⟩
              case measure => simp [intOf]; omega
        · have hxC : x = C := by omega
          have hdx : decide (x < C) = false := decide_eq_false (by omega)
          go_wp2
          go_roundw
          case rel => exact ⟨y + 1, by omega, by go_num, HI, HP, ⟨by rw [Nat.mul_succ]; rw [hxC] at HS; exact HS.out⟩, HB⟩
          case measure => simp [intOf]; omega
    · have hyR : y = R := by omega
      have hdy : decide (y < R) = false := decide_eq_false (by omega)
      go_wp2
      first | go_end0 | ((try simp only [Exit.inBlock, Exit.then]); refine bodyPost_ret (results_none rfl _ _ _) rfl ?_)
      rw [hyR] at HS
      exact ⟨rfl, HS.out, HB.out⟩

end Go.Proofs.Ytmaiifghplcjeaa.Print
