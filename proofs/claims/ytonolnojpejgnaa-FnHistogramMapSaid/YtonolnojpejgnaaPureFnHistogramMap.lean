/- FnHistogramMap answers true for every code: the histogram of a mapped image is the image's histogram with the numbers moved by the list. No condition. -/
import Derived.Test.YtonolnojpejgnaaPrintHimplMapImage
import Derived.Test.YtonolnojpejgnaaPrintHx0
import Derived.Test.YtonolnojpejgnaaPrintHx2
import Derived.Test.YtonolnojpejgnaaPrintLFnHistogramMap
import Derived.Test.YtonolnojpejgnaaPrintR0x0
import Derived.Test.YtonolnojpejgnaaPrintR0x1
import Derived.Test.YtonolnojpejgnaaPrintR1x0
import Derived.Test.YtonolnojpejgnaaPrintR1x1
import Derived.Test.YtonolnojpejgnaaPrintR1x2
import Derived.Test.YtonolnojpejgnaaPrintR1x3
import Derived.Test.YtonolnojpejgnaaPrintR1x6
import Derived.Test.YtonolnojpejgnaaPrintR1x7
import Derived.Test.YtonolnojpejgnaaPrintR1x8
import Derived.Test.YtonolnojpejgnaaPrintR1x9
namespace Go.Proofs.Ytonolnojpejgnaa.Pure
open Go.RowKit Go.Proofs.Ytonolnojpejgnaa.Print Go.Proofs.YtonolnojpejgnaaW.PrintWords Go.Proofs.YtonolnojpejgnaaW.PrintLast Go.Proofs.YtonolnojpejgnaaW.PrintMore
set_option linter.unusedVariables false
set_option linter.unusedSimpArgs false
theorem rdN (l : List Int) (k : Nat) (h : k < l.length) : rd l (k : Int) = l[k] := by
  simp [rd, List.getD_eq_getElem?_getD, List.getElem?_eq_getElem h]
theorem drop_cons_ {α : Type} (l : List α) (k : Nat) (h : k < l.length) : l.drop k = l[k] :: l.drop (k + 1) := List.drop_eq_getElem_cons h
theorem take_snocN {α : Type} (l : List α) (k : Nat) (h : k < l.length) : l.take (k + 1) = l.take k ++ [l[k]] := by
  rw [List.take_succ_eq_append_getElem h]
/-- Two lists of one length, from a place on. -/
theorem decide_drop_eq {α : Type} [DecidableEq α] (a b : List α) (i : Nat) (h1 : i < a.length) (h2 : i < b.length) : decide (a.drop i = b.drop i) = (decide (a[i] = b[i]) && decide (a.drop (i + 1) = b.drop (i + 1))) := by
  rw [drop_cons_ a i h1, drop_cons_ b i h2]
  rw [Bool.eq_iff_iff]
  simp only [decide_eq_true_eq, Bool.and_eq_true, List.cons.injEq]

/-- A code that a reader reads. -/
def CodeOk (b : List Int) : Prop := b.length ≤ 2000 ∧ ∀ x ∈ b, 0 ≤ x ∧ x ≤ 255
theorem code_rd (b : List Int) (h : CodeOk b) (i : Int) (h0 : 0 ≤ i) (h1 : i < b.length) : 0 ≤ rd b i ∧ rd b i ≤ 255 := by
  obtain ⟨n, rfl⟩ := Int.eq_ofNat_of_zero_le h0
  rw [rdN b n (by omega)]
  exact h.2 _ (List.getElem_mem _)
theorem xor_nonneg (a b : Int) (ha : 0 ≤ a) (ha1 : a < 4611686018427387904) (hb : 0 ≤ b) (hb1 : b < 4611686018427387904) : 0 ≤ Go.bits .xor .i64 a b := by
  obtain ⟨n, rfl⟩ := Int.eq_ofNat_of_zero_le ha
  obtain ⟨m, rfl⟩ := Int.eq_ofNat_of_zero_le hb
  have hx : n ^^^ m < 2 ^ 62 := Nat.xor_lt_two_pow (by omega) (by omega)
  have e : Go.bits .xor .i64 (n : Int) (m : Int) = ((n ^^^ m : Nat) : Int) := by
    have hp : (2 : Nat) ^ IntKind.i64.bits = 18446744073709551616 := by decide
    have ha' : n % 2 ^ IntKind.i64.bits = n := Nat.mod_eq_of_lt (by omega)
    have hb' : m % 2 ^ IntKind.i64.bits = m := Nat.mod_eq_of_lt (by omega)
    simp only [bits, BitVec.ofInt_natCast, BitVec.toNat_xor, BitVec.toNat_ofNat, ha', hb']
    rw [IntKind.wrap_i64]
    omega
  rw [e]
  omega
theorem spec_reader_pick.ev (b : List Int) (h : CodeOk b) (p n : Int) (hp0 : 0 ≤ p) (hp1 : p < 1000000000) (hn : n ≤ 1000000) : ∃ v, Ev (fun k => spec_reader_pick.f k b p n) (v, p + 1) ∧ 0 ≤ v ∧ (v < n ∨ v = 0) := by
  have hw : wrap64 (p + 1) = p + 1 := wrapIn (by omega) (by omega)
  have hw1 : wrap64 (p + 1 - 1) = p := by rw [wrapIn (by omega) (by omega)]; omega
  unfold spec_reader_pick.f
  rw [hw]
  by_cases hn1 : n < 1
  · refine ⟨0, evPos hn1 (Ev.step (fun k => by simp only [spec_reader_pick.j0]; rfl) (evPos (by trivial) (evRet rfl))), by omega, .inr rfl⟩
  by_cases hb : (b.length : Int) = 0
  · refine ⟨0, evNeg hn1 (Ev.step (fun k => by simp only [spec_reader_pick.j0]; rfl) (evPos (by simp [hb]) (evRet rfl))), by omega, .inr rfl⟩
  have hbf : ((b.length : Int) == 0) = false := by simpa using hb
  have hl := h.1
  by_cases hlt : p < (b.length : Int)
  · have hr := code_rd b h p hp0 hlt
    refine ⟨Int.tmod (wrap64 (rd b p)) n, evNeg hn1 (Ev.step (fun k => by simp only [spec_reader_pick.j0, hbf, hw1]; rfl) (evNeg (by simp) (evPos hlt (evPos hp0 (evNeg (by omega) (evRet rfl)))))), ?_, .inl ?_⟩
    · exact Int.tmod_nonneg _ (by rw [wrapIn (by omega) (by omega)]; omega)
    · exact Int.tmod_lt_of_pos _ (by omega)
  · have hm0 : 0 ≤ Int.tmod p (b.length : Int) := Int.tmod_nonneg _ hp0
    have hm1 : Int.tmod p (b.length : Int) < b.length := Int.tmod_lt_of_pos _ (by omega)
    have hq : wrap64 (wrap64 (p * 7) + 3) = p * 7 + 3 := by rw [wrapIn (x := p * 7) (by omega) (by omega), wrapIn (by omega) (by omega)]
    have hk0 : 0 ≤ Int.tmod (p * 7 + 3) (b.length : Int) := Int.tmod_nonneg _ (by omega)
    have hk1 : Int.tmod (p * 7 + 3) (b.length : Int) < b.length := Int.tmod_lt_of_pos _ (by omega)
    have r1 := code_rd b h _ hm0 hm1
    have r2 := code_rd b h _ hk0 hk1
    have hd0 : 0 ≤ Int.tdiv p (b.length : Int) := Int.tdiv_nonneg hp0 (by omega)
    have hd1 : Int.tdiv p (b.length : Int) ≤ p := by
      have := Int.natAbs_tdiv_le_natAbs p (b.length : Int)
      omega
    refine ⟨_, evNeg hn1 (Ev.step (fun k => by simp only [spec_reader_pick.j0, hbf, hw1, hq]; rfl) (evNeg (by simp) (evNeg hlt (evNeg hb (evPos hm0 (evPos hm1 (evPos hk0 (evPos hk1 (evNeg (by omega) (evRet rfl)))))))))), ?_, .inl (Int.tmod_lt_of_pos _ (by omega))⟩
    generalize rd b (Int.tmod p (b.length : Int)) = u at *
    generalize rd b (Int.tmod (p * 7 + 3) (b.length : Int)) = t at *
    generalize Int.tdiv p (b.length : Int) = q at *
    rw [wrapIn (x := u) (by omega) (by omega), wrapIn (x := t) (by omega) (by omega), wrapIn (x := q) (by omega) (by omega), wrapIn (x := u * 131) (by omega) (by omega), wrapIn (x := t * 1117) (by omega) (by omega), wrapIn (x := u * 131 + t * 1117) (by omega) (by omega), wrapIn (x := p * 29) (by omega) (by omega), wrapIn (x := u * 131 + t * 1117 + p * 29) (by omega) (by omega), wrapIn (x := q * 53) (by omega) (by omega), wrapIn (x := u * 131 + t * 1117 + p * 29 + q * 53) (by omega) (by omega)]
    generalize hX : u * 131 + t * 1117 + p * 29 + q * 53 = X
    have hX0 : 0 ≤ X := by omega
    have hX1 : X < 4611686018427387904 := by omega
    have hT0 : 0 ≤ Int.tdiv X 64 := Int.tdiv_nonneg hX0 (by omega)
    have hT1 : Int.tdiv X 64 ≤ X := by
      have := Int.natAbs_tdiv_le_natAbs X 64
      omega
    rw [wrapIn (x := Int.tdiv X 64) (by omega) (by omega)]
    exact Int.tmod_nonneg _ (xor_nonneg _ _ hX0 hX1 hT0 (by omega))
theorem spec_newReader.ev (l : List Int) (hw : ∀ x ∈ l, (Lit.int .u8 x).wf = true) : ∃ b, spec_newReader.f l = some (b, 0) ∧ CodeOk b := by
  have hx : ∀ x ∈ l, 0 ≤ x ∧ x ≤ 255 := fun x hx => by
    have := hw x hx
    have hmin : IntKind.u8.min = 0 := rfl
    have hmax : IntKind.u8.max = 255 := rfl
    simp only [Lit.wf, Bool.and_eq_true, decide_eq_true_eq] at this
    omega
  unfold spec_newReader.f
  by_cases h : (l.length : Int) > 2000
  · rw [if_pos h, if_pos (by omega)]
    exact ⟨_, rfl, by simp; omega, fun x h2 => hx x (List.mem_of_mem_take h2)⟩
  · rw [if_neg h]
    exact ⟨_, rfl, by omega, hx⟩

theorem spec_reader_one.ev (b : List Int) (h : CodeOk b) (p : Int) (hp0 : 0 ≤ p) (hp1 : p < 1000000000) (l : List Int) (hl0 : 0 < l.length) (hl1 : l.length ≤ 1000) : ∃ v, Ev (fun k => spec_reader_one.f k b p l) (v, p + 1) ∧ v ∈ l := by
  obtain ⟨v, hv, h0, h1⟩ := spec_reader_pick.ev b h p (l.length : Int) hp0 hp1 (by omega)
  have hlt : v < l.length := by omega
  refine ⟨rd l v, ?_, ?_⟩
  · unfold spec_reader_one.f
    exact evBind hv (evPos h0 (evPos hlt (evRet rfl)))
  · obtain ⟨n, rfl⟩ := Int.eq_ofNat_of_zero_le h0
    rw [rdN l n (by omega)]
    exact List.getElem_mem _

def Bytes (l : List Int) : Prop := ∀ x ∈ l, 0 ≤ x ∧ x ≤ 255
theorem Bytes.set {l : List Int} (h : Bytes l) (i : Nat) (v : Int) (h0 : 0 ≤ v) (h1 : v ≤ 255) : Bytes (l.set i v) := by
  intro x hx
  rcases List.mem_or_eq_of_mem_set hx with hx | rfl
  · exact h x hx
  · exact ⟨h0, h1⟩
theorem spec_newImage.val (a b c : Int) (ha : 1 ≤ a ∧ a ≤ 16) (hb : 1 ≤ b ∧ b ≤ 16) (hc : 1 ≤ c ∧ c ≤ 4) : spec_newImage.f a b c = some (a, b, c, List.replicate (a * b * c).toNat 0) := by
  obtain ⟨h1, h2, h3, h4⟩ := shape_prod ha hb hc
  unfold spec_newImage.f
  rw [shape_wrap ha hb hc, if_pos (by omega), if_pos (by omega)]
theorem spec_randomImage.ev_l0 (b : List Int) (h : CodeOk b) (kind W H n : Int) (N : Nat) (hN : N ≤ 100000) (d : Nat) : ∀ (i : Nat) (at_ p : Int) (l : List Int), l.length = N → i ≤ N → N - i = d → 0 ≤ at_ → at_ ≤ 255 → Bytes l → 0 ≤ p → p + d < 1000000000 →
    ∃ l' q, Ev (fun k => spec_randomImage.l0 k kind at_ (i : Int) b p W H n l) (W, H, n, l', q) ∧ l'.length = N ∧ Bytes l' ∧ p ≤ q ∧ q ≤ p + d := by
  induction d with
  | zero =>
    intro i at_ p l hl hi hd _ _ hb hp _
    exact ⟨l, p, Ev.step (fun k => by simp only [spec_randomImage.l0]; rfl) (evNeg (by omega) (evRet rfl)), hl, hb, by omega, by omega⟩
  | succ d ih =>
    intro i at_ p l hl hi hd h0 h1 hb hp hpd
    have hlt : (i : Int) < (l.length : Int) := by omega
    by_cases k0 : kind = 0
    · obtain ⟨v, hv, v0, v1⟩ := spec_reader_pick.ev b h p 256 hp (by omega) (by omega)
      obtain ⟨l', q, he, e1, e2, e3, e4⟩ := ih (i + 1) v (p + 1) (l.set (i : Int).toNat v) (by simpa using hl) (by omega) (by omega) v0 (by omega) (hb.set _ v v0 (by omega)) (by omega) (by omega)
      refine ⟨l', q, Ev.step (fun k => by simp only [spec_randomImage.l0, wrapSucc i (by omega)]; rfl) (evPos hlt (evPos k0 (evBind hv ?_))), e1, e2, by omega, by omega⟩
      exact evPos (show (0 : Int) ≤ (i : Int) by omega) he
    by_cases k1 : kind = 1
    · obtain ⟨v, hv, v0, v1⟩ := spec_reader_pick.ev b h p 5 hp (by omega) (by omega)
      have hw : wrap64 (wrap64 (at_ + v) + 254) = at_ + v + 254 := by rw [wrapIn (x := at_ + v) (by omega) (by omega), wrapIn (by omega) (by omega)]
      have t0 := Int.tmod_nonneg 256 (show 0 ≤ at_ + v + 254 by omega)
      have t1 := Int.tmod_lt_of_pos (at_ + v + 254) (show (0 : Int) < 256 by omega)
      obtain ⟨l', q, he, e1, e2, e3, e4⟩ := ih (i + 1) (Int.tmod (at_ + v + 254) 256) (p + 1) (l.set (i : Int).toNat (Int.tmod (at_ + v + 254) 256)) (by simpa using hl) (by omega) (by omega) t0 (by omega) (hb.set _ _ t0 (by omega)) (by omega) (by omega)
      refine ⟨l', q, Ev.step (fun k => by simp only [spec_randomImage.l0, wrapSucc i (by omega)]; rfl) (evPos hlt (evNeg k0 (evPos k1 (evBind hv ?_)))), e1, e2, by omega, by omega⟩
      simp only [hw]
      exact evPos (show (0 : Int) ≤ (i : Int) by omega) he
    by_cases k2 : kind = 2
    · obtain ⟨v, hv, v0, v1⟩ := spec_reader_pick.ev b h p 4 hp (by omega) (by omega)
      have hw : wrap64 (60 * v) = 60 * v := wrapIn (by omega) (by omega)
      obtain ⟨l', q, he, e1, e2, e3, e4⟩ := ih (i + 1) (60 * v) (p + 1) (l.set (i : Int).toNat (60 * v)) (by simpa using hl) (by omega) (by omega) (by omega) (by omega) (hb.set _ _ (by omega) (by omega)) (by omega) (by omega)
      refine ⟨l', q, Ev.step (fun k => by simp only [spec_randomImage.l0, wrapSucc i (by omega)]; rfl) (evPos hlt (evNeg k0 (evNeg k1 (evPos k2 (evBind hv ?_))))), e1, e2, by omega, by omega⟩
      simp only [hw]
      exact evPos (show (0 : Int) ≤ (i : Int) by omega) he
    · obtain ⟨l', q, he, e1, e2, e3, e4⟩ := ih (i + 1) at_ p (l.set (i : Int).toNat at_) (by simpa using hl) (by omega) (by omega) h0 h1 (hb.set _ _ h0 h1) (by omega) (by omega)
      exact ⟨l', q, Ev.step (fun k => by simp only [spec_randomImage.l0, wrapSucc i (by omega)]; rfl) (evPos hlt (evNeg k0 (evNeg k1 (evNeg k2 (evPos (by omega) he))))), e1, e2, by omega, by omega⟩
theorem spec_randomImage.ev (b : List Int) (h : CodeOk b) (p : Int) (hp0 : 0 ≤ p) (hp1 : p < 900000000) (n : Int) (hn : 1 ≤ n ∧ n ≤ 4) :
    ∃ W H l q, Ev (fun k => spec_randomImage.f k b p n) (W, H, n, l, q) ∧ ImgOk W H n l ∧ W ≤ 8 ∧ H ≤ 8 ∧ p ≤ q ∧ q ≤ p + 2000 := by
  obtain ⟨W, hW, mW⟩ := spec_reader_one.ev b h p hp0 (by omega) [3, 4, 2, 5, 1, 8, 6] (by simp) (by simp)
  obtain ⟨H, hH, mH⟩ := spec_reader_one.ev b h (p + 1) (by omega) (by omega) [3, 2, 4, 1, 5, 8] (by simp) (by simp)
  obtain ⟨kd, hk, k0, k1⟩ := spec_reader_pick.ev b h (p + 1 + 1) 4 (by omega) (by omega) (by omega)
  obtain ⟨at_, ha, a0, a1⟩ := spec_reader_pick.ev b h (p + 1 + 1 + 1) 256 (by omega) (by omega) (by omega)
  have bW : 1 ≤ W ∧ W ≤ 8 := by
    simp only [List.mem_cons, List.mem_nil_iff, or_false] at mW
    omega
  have bH : 1 ≤ H ∧ H ≤ 8 := by
    simp only [List.mem_cons, List.mem_nil_iff, or_false] at mH
    omega
  have hI := spec_newImage.val W H n ⟨bW.1, by omega⟩ ⟨bH.1, by omega⟩ hn
  obtain ⟨_, _, h3, h4⟩ := shape_prod (a := W) (b := H) (c := n) ⟨bW.1, by omega⟩ ⟨bH.1, by omega⟩ hn
  obtain ⟨l', q, he, e1, e2, e3, e4⟩ := spec_randomImage.ev_l0 b h kd W H n (W * H * n).toNat (by omega) (W * H * n).toNat 0 at_ (p + 1 + 1 + 1 + 1) (List.replicate (W * H * n).toNat 0) (by simp) (by omega) (by omega) a0 (by omega)
    (fun x hx => by rw [List.mem_replicate] at hx; omega) (by omega) (by omega)
  refine ⟨W, H, l', q, ?_, ⟨⟨bW.1, by omega⟩, ⟨bH.1, by omega⟩, hn, by omega, e2⟩, bW.2, bH.2, by omega, by omega⟩
  unfold spec_randomImage.f
  exact evBind hW (evBind hH (evFix hI (evBind hk (evBind ha he))))
theorem spec_spoilImage.ev (b : List Int) (h : CodeOk b) (p : Int) (hp0 : 0 ≤ p) (hp1 : p < 900000000) (W H n : Int) (l : List Int) (hl : 0 < l.length) :
    ∃ W' H' n' l' q, Ev (fun k => spec_spoilImage.f k b p W H n l) (W', H', n', l', q) ∧ l'.length ≤ l.length ∧ p ≤ q ∧ q ≤ p + 2 := by
  obtain ⟨v, hv, v0, v1⟩ := spec_reader_pick.ev b h p 40 hp0 (by omega) (by omega)
  unfold spec_spoilImage.f
  by_cases e0 : v = 0
  · obtain ⟨u, hu, _⟩ := spec_reader_one.ev b h (p + 1) (by omega) (by omega) [0, 17, wrap64 (W + 1)] (by simp) (by simp)
    exact ⟨u, H, n, l, p + 1 + 1, evBind hv (evPos e0 (evBind hu (evRet rfl))), by omega, by omega, by omega⟩
  by_cases e1 : v = 1
  · exact ⟨W, H, n, l.drop (1 : Int).toNat, p + 1, evBind hv (evNeg e0 (evPos e1 (evPos (by omega) (evRet rfl)))), by simp, by omega, by omega⟩
  by_cases e2 : v = 2
  · obtain ⟨u, hu, _⟩ := spec_reader_one.ev b h (p + 1) (by omega) (by omega) [-1, 256] (by simp) (by simp)
    exact ⟨W, H, n, l.set (0 : Int).toNat u, p + 1 + 1, evBind hv (evNeg e0 (evNeg e1 (evPos e2 (evBind hu (evPos (by omega) (evRet rfl)))))), by simp, by omega, by omega⟩
  by_cases e3 : v = 3
  · obtain ⟨u, hu, _⟩ := spec_reader_one.ev b h (p + 1) (by omega) (by omega) [0, 5] (by simp) (by simp)
    exact ⟨W, H, u, l, p + 1 + 1, evBind hv (evNeg e0 (evNeg e1 (evNeg e2 (evPos e3 (evBind hu (evRet rfl)))))), by omega, by omega, by omega⟩
  · exact ⟨W, H, n, l, p + 1, evBind hv (evNeg e0 (evNeg e1 (evNeg e2 (evNeg e3 (evRet rfl))))), by omega, by omega, by omega⟩
theorem spec_anyPlanes.ev (b : List Int) (h : CodeOk b) (p : Int) (hp0 : 0 ≤ p) (hp1 : p < 900000000) : ∃ n, Ev (fun k => spec_anyPlanes.f k b p) (n, p + 1) ∧ 1 ≤ n ∧ n ≤ 4 := by
  obtain ⟨u, hu, mu⟩ := spec_reader_one.ev b h p hp0 (by omega) [1, 3, 1, 4, 2] (by simp) (by simp)
  refine ⟨u, ?_, ?_⟩
  · unfold spec_anyPlanes.f
    exact evBind hu (evRet rfl)
  · simp only [List.mem_cons, List.mem_nil_iff, or_false] at mu
    omega
theorem spec_anyImage.ev (b : List Int) (h : CodeOk b) (p : Int) (hp0 : 0 ≤ p) (hp1 : p < 800000000) : ∃ W H n l q, Ev (fun k => spec_anyImage.f k b p) (W, H, n, l, q) ∧ l.length ≤ 1024 ∧ p ≤ q ∧ q ≤ p + 3000 := by
  obtain ⟨n, hn, n0, n1⟩ := spec_anyPlanes.ev b h p hp0 (by omega)
  obtain ⟨W, H, l, q, hr, ok, _, _, q0, q1⟩ := spec_randomImage.ev b h (p + 1) (by omega) (by omega) n ⟨n0, n1⟩
  obtain ⟨W', H', n', l', q', hs, e1, e2, e3⟩ := spec_spoilImage.ev b h q (by omega) (by omega) W H n l ok.len.1
  refine ⟨W', H', n', l', q', ?_, by have := ok.len.2; omega, by omega, by omega⟩
  unfold spec_anyImage.f
  exact evBind hn (evBind hr (evBind hs (evRet rfl)))

theorem spec_copyInts.val (l : List Int) (h : l.length < 17592186044416) : spec_copyInts.f l = some l := by
  unfold spec_copyInts.f
  simp [h]

theorem spec_reader_spoil.ev (b : List Int) (h : CodeOk b) (p : Int) (hp0 : 0 ≤ p) (hp1 : p < 900000000) (l : List Int) (hl : l.length ≤ 1000000) (n : Int) : ∃ r q, Ev (fun k => spec_reader_spoil.f k b p l n) (r, q) ∧ p ≤ q ∧ q ≤ p + 3 ∧ r.length ≤ l.length + 1 := by
  obtain ⟨v, hv, h0, h1⟩ := spec_reader_pick.ev b h p 20 hp0 (by omega) (by omega)
  unfold spec_reader_spoil.f
  have hc := spec_copyInts.val l (by omega)
  by_cases e0 : v = 0
  · exact ⟨l ++ [n], p + 1, evFix hc (evBind hv (evPos e0 (evPos (by omega) (evRet rfl)))), by omega, by omega, by simp⟩
  by_cases e1 : v = 1
  · by_cases hz : (l.length : Int) > 0
    · exact ⟨l.drop (1 : Int).toNat, p + 1, evFix hc (evBind hv (evNeg e0 (evPos e1 (evPos hz (evPos (by omega) (evRet rfl)))))), by omega, by omega, by simp; omega⟩
    · exact ⟨l, p + 1, evFix hc (evBind hv (evNeg e0 (evPos e1 (evNeg hz (evRet rfl))))), by omega, by omega, by omega⟩
  by_cases e2 : v = 2
  · by_cases hz : (l.length : Int) > 0
    · obtain ⟨u, hu, u0, u1⟩ := spec_reader_pick.ev b h (p + 1) (l.length : Int) (by omega) (by omega) (by omega)
      obtain ⟨t, ht, _⟩ := spec_reader_one.ev b h (p + 1 + 1) (by omega) (by omega) [(-1), n, 0, 1] (by simp) (by simp)
      exact ⟨l.set u.toNat t, p + 1 + 1 + 1, evFix hc (evBind hv (evNeg e0 (evNeg e1 (evPos e2 (evPos hz (evBind hu (evBind ht (evPos u0 (evPos (by omega) (evRet rfl)))))))))), by omega, by omega, by simp⟩
    · exact ⟨l, p + 1, evFix hc (evBind hv (evNeg e0 (evNeg e1 (evPos e2 (evNeg hz (evRet rfl)))))), by omega, by omega, by omega⟩
  · exact ⟨l, p + 1, evFix hc (evBind hv (evNeg e0 (evNeg e1 (evNeg e2 (evRet rfl))))), by omega, by omega, by omega⟩

theorem spec_DrawMapImage.ev_l0 (b : List Int) (h : CodeOk b) (m W H n : Int) (r : List Int) (hm0 : 1 ≤ m) (hm1 : m ≤ 7) (d : Nat) : ∀ (i : Nat) (p : Int) (l : List Int), l.length = i → i ≤ 256 → 256 - i = d → 0 ≤ p → p + d < 100000000 →
    ∃ l', Ev (fun k => spec_DrawMapImage.l0 k l m (i : Int) b p W H n r) (W, H, n, r, l') ∧ l'.length ≤ 257 := by
  induction d with
  | zero =>
    intro i p l hl hi hd hp hpd
    obtain ⟨l', q, hs, _, _, h1⟩ := spec_reader_spoil.ev b h p hp (by omega) l (by omega) 256
    exact ⟨l', Ev.step (fun k => by simp only [spec_DrawMapImage.l0]; rfl) (evNeg (by omega) (evBind hs (evRet rfl))), by omega⟩
  | succ d ih =>
    intro i p l hl hi hd hp hpd
    obtain ⟨v, hv, v0, v1⟩ := spec_reader_pick.ev b h p 3 hp (by omega) (by omega)
    obtain ⟨l', he, h1⟩ := ih (i + 1) (p + 1) (l ++ [Int.tmod (wrap64 (wrap64 ((i : Int) * m) + v)) 256]) (by simp; omega) (by omega) (by omega) (by omega) (by omega)
    refine ⟨l', Ev.step (fun k => by simp only [spec_DrawMapImage.l0, wrapSucc i (by omega)]; rfl) (evPos (by omega) (evBind hv ?_)), h1⟩
    exact evPos (show l.length < 17592186044416 by omega) he
theorem spec_DrawMapImage.ev (l : List Int) (hw : ∀ x ∈ l, (Lit.int .u8 x).wf = true) : ∃ W H n r l1, Ev (fun k => spec_DrawMapImage.f k l) (W, H, n, r, l1) ∧ r.length ≤ 1024 ∧ l1.length ≤ 257 := by
  obtain ⟨b, hb, hc⟩ := spec_newReader.ev l hw
  obtain ⟨W, H, n, r, q, he, h1, q0, q1⟩ := spec_anyImage.ev b hc 0 (by omega) (by omega)
  obtain ⟨v, hv, v0, v1⟩ := spec_reader_pick.ev b hc q 7 (by omega) (by omega) (by omega)
  obtain ⟨l', hl, h2⟩ := spec_DrawMapImage.ev_l0 b hc (1 + v) W H n r (by omega) (by omega) 256 0 (q + 1) [] rfl (by omega) (by omega) (by omega) (by omega)
  refine ⟨W, H, n, r, l', ?_, h1, h2⟩
  unfold spec_DrawMapImage.f
  refine evFix hb (evBind he (evBind hv ?_))
  simp only [wrapIn (show -9223372036854775808 ≤ 1 + v by omega) (show 1 + v ≤ 9223372036854775807 by omega)]
  exact hl

theorem laws_equalInts.ev_l0 (a b : List Int) (hab : a.length = b.length) (hl : a.length ≤ 9223372036854775807) (d : Nat) : ∀ i, i ≤ a.length → a.length - i = d →
    Ev (fun k => laws_equalInts.l0 k a b (i : Int)) (decide (a.drop i = b.drop i)) := by
  induction d with
  | zero =>
    intro i hi hd
    refine Ev.step (fun k => by simp only [laws_equalInts.l0]; rfl) (evNeg (by omega) (evRet ?_))
    rw [List.drop_of_length_le (by omega), List.drop_of_length_le (by omega)]
    rfl
  | succ d ih =>
    intro i hi hd
    have hw : wrap64 ((i : Int) + 1) = ((i + 1 : Nat) : Int) := wrapSucc i (by omega)
    refine Ev.step (fun k => by simp only [laws_equalInts.l0, hw]; rfl) (evPos (by omega) (evPos (by omega) (evPos (by omega) ?_)))
    rw [decide_drop_eq a b i (by omega) (by omega), rdN a i (by omega), rdN b i (by omega)]
    refine evIf (fun h => ?_) (fun h => evRet ?_)
    · rw [decide_eq_true h, Bool.true_and]
      exact ih (i + 1) (by omega) (by omega)
    · rw [decide_eq_false h, Bool.false_and]
theorem laws_equalInts.ev (a b : List Int) (hl : a.length ≤ 9223372036854775807) : Ev (fun k => laws_equalInts.f k a b) (decide (a = b)) := by
  unfold laws_equalInts.f
  refine evIf (fun h => ?_) (fun h => evRet ?_)
  · have := laws_equalInts.ev_l0 a b (by omega) hl a.length 0 (by omega) (by omega)
    simpa using this
  · rw [eq_comm, decide_eq_false_iff_not]
    intro hab
    exact h (by rw [hab])

theorem laws_equalImage.ev (a b c : Int) (l : List Int) (a' b' c' : Int) (l' : List Int) (hl : l.length ≤ 9223372036854775807) : Ev (fun k => laws_equalImage.f k a b c l a' b' c' l') (decide (a = a' ∧ b = b' ∧ c = c' ∧ l = l')) := by
  have h := laws_equalInts.ev l l' hl
  unfold laws_equalImage.f
  refine evIf (fun e1 => evIf (fun e2 => evIf (fun e3 => evBind h (evRet ?_)) (fun e3 => evRet ?_)) (fun e2 => evRet ?_)) (fun e1 => evRet ?_)
  · rw [Bool.eq_iff_iff]
    simp only [decide_eq_true_eq]
    exact ⟨fun h => ⟨e1, e2, e3, h⟩, fun h => h.2.2.2⟩
  · exact (decide_eq_false (fun h => e3 h.2.2.1)).symm
  · exact (decide_eq_false (fun h => e2 h.2.1)).symm
  · exact (decide_eq_false (fun h => e1 h.1)).symm
theorem laws_equalImage.refl (a b c : Int) (l : List Int) (hl : l.length ≤ 9223372036854775807) : Ev (fun k => laws_equalImage.f k a b c l a b c l) true := by
  have h := laws_equalImage.ev a b c l a b c l hl
  rwa [decide_eq_true ⟨rfl, rfl, rfl, rfl⟩] at h

theorem inRange_val (a lo hi : Int) : spec_inRange.f a lo hi = some (decide (lo ≤ a ∧ a ≤ hi)) := by
  unfold spec_inRange.f
  split
  · rename_i h; simp [h]
  · rename_i h; simp [h]

/-- All numbers of a list lie in a range. -/
def allB (lo hi : Int) (l : List Int) : Bool := l.all fun x => decide (lo ≤ x ∧ x ≤ hi)
theorem allB_iff (lo hi : Int) (l : List Int) : allB lo hi l = true ↔ ∀ x ∈ l, lo ≤ x ∧ x ≤ hi := by
  unfold allB
  rw [List.all_eq_true]
  simp only [decide_eq_true_eq]
theorem spec_allIn.ev_l0 (l : List Int) (lo hi : Int) (hl : l.length ≤ 9223372036854775806) (d : Nat) : ∀ i, i ≤ l.length → l.length - i = d →
    Ev (fun k => spec_allIn.l0 k l lo hi (i : Int)) (allB lo hi (l.drop i)) := by
  induction d with
  | zero =>
    intro i hi' hd
    refine Ev.step (fun k => by simp only [spec_allIn.l0]; rfl) (evNeg (by omega) (evRet ?_))
    rw [List.drop_of_length_le (by omega)]
    rfl
  | succ d ih =>
    intro i hi' hd
    have hw : wrap64 ((i : Int) + 1) = ((i + 1 : Nat) : Int) := wrapSucc i (by omega)
    refine Ev.step (fun k => by simp only [spec_allIn.l0, hw]; rfl) (evPos (by omega) (evPos (by omega) ?_))
    rw [rdN l i (by omega), drop_cons_ l i (by omega)]
    have hr : spec_inRange.f l[i] lo hi = some (decide (lo ≤ l[i] ∧ l[i] ≤ hi)) := by
      unfold spec_inRange.f
      split
      · rename_i h; simp [h]
      · rename_i h; simp [h]
    have e : allB lo hi (l[i] :: l.drop (i + 1)) = (decide (lo ≤ l[i] ∧ l[i] ≤ hi) && allB lo hi (l.drop (i + 1))) := by
      unfold allB
      rw [List.all_cons]
    rw [e]
    refine evFix hr (evIf (fun h => ?_) (fun h => evRet ?_))
    · rw [h, Bool.true_and]
      exact ih (i + 1) (by omega) (by omega)
    · rw [Bool.eq_false_iff.mpr h, Bool.false_and]
theorem spec_allIn.ev (l : List Int) (lo hi : Int) (hl : l.length ≤ 9223372036854775806) : Ev (fun k => spec_allIn.f k l lo hi) (allB lo hi l) := by
  have := spec_allIn.ev_l0 l lo hi hl l.length 0 (by omega) (by omega)
  unfold spec_allIn.f
  simpa using this

theorem spec_validShape.val (a b c : Int) : spec_validShape.f a b c = some (decide ((1 ≤ a ∧ a ≤ 16) ∧ (1 ≤ b ∧ b ≤ 16) ∧ (1 ≤ c ∧ c ≤ 4))) := by
  unfold spec_validShape.f
  rw [inRange_val, inRange_val, inRange_val]
  simp only [Option.bind_some, decide_eq_true_eq]
  by_cases h1 : 1 ≤ a ∧ a ≤ 16
  · rw [if_pos h1]
    by_cases h2 : 1 ≤ b ∧ b ≤ 16
    · rw [if_pos h2]
      congr 1
      rw [Bool.eq_iff_iff]
      simp only [decide_eq_true_eq]
      exact ⟨fun h => ⟨h1, h2, h⟩, fun h => h.2.2⟩
    · rw [if_neg h2, decide_eq_false (fun h => h2 h.2.1)]
  · rw [if_neg h1, decide_eq_false (fun h => h1 h.1)]
theorem allB_bytes (l : List Int) : allB 0 255 l = decide (∀ x ∈ l, 0 ≤ x ∧ x ≤ 255) := by
  rw [Bool.eq_iff_iff, allB_iff, decide_eq_true_eq]
theorem spec_validImage.ev (a b c : Int) (l : List Int) (hl : l.length ≤ 9223372036854775806) : Ev (fun k => spec_validImage.f k a b c l) (decide (ImgOk a b c l)) := by
  unfold spec_validImage.f
  refine evFix (spec_validShape.val a b c) ?_
  by_cases h : (1 ≤ a ∧ a ≤ 16) ∧ (1 ≤ b ∧ b ≤ 16) ∧ (1 ≤ c ∧ c ≤ 4)
  · refine evPos (decide_eq_true h) ?_
    rw [shape_wrap h.1 h.2.1 h.2.2]
    by_cases h2 : (l.length : Int) = a * b * c
    · refine evPos h2 ?_
      have h3 := spec_allIn.ev l 0 255 hl
      refine evBind h3 (evRet ?_)
      rw [allB_bytes, Bool.eq_iff_iff]
      simp only [decide_eq_true_eq]
      exact ⟨fun h3 => ⟨h.1, h.2.1, h.2.2, h2, h3⟩, fun hh => hh.2.2.2.2⟩
    · exact evNeg h2 (evRet (decide_eq_false (fun hh : ImgOk a b c l => h2 hh.2.2.2.1)).symm)
  · exact evNeg (by rw [decide_eq_false h]; simp) (evRet (decide_eq_false (fun hh : ImgOk a b c l => h ⟨hh.1, hh.2.1, hh.2.2.1⟩)).symm)

/-- How often each number of 0..255 stands in a list. -/
def histL (l : List Int) : List Int := (List.range 256).map fun (n : Nat) => ((l.count (n : Int) : Nat) : Int)
theorem histL_length (l : List Int) : (histL l).length = 256 := by simp [histL]
theorem histL_get (l : List Int) (n : Nat) (h : n < (histL l).length) : (histL l)[n] = ((l.count (n : Int) : Nat) : Int) := by simp [histL]
theorem histL_rd (l : List Int) (n : Nat) (h : n < 256) : rd (histL l) (n : Int) = ((l.count (n : Int) : Nat) : Int) := by
  rw [rdN _ n (by rw [histL_length]; exact h), histL_get]
theorem histL_nil : histL [] = List.replicate 256 0 := by
  apply List.ext_getElem
  · rw [histL_length, List.length_replicate]
  · intro j h1 h2
    rw [histL_get, List.getElem_replicate]
    rfl
theorem histL_snoc (l : List Int) (x : Int) (h0 : 0 ≤ x) (h1 : x ≤ 255) : (histL l).set x.toNat (rd (histL l) x + 1) = histL (l ++ [x]) := by
  obtain ⟨m, rfl⟩ := Int.eq_ofNat_of_zero_le h0
  rw [Int.toNat_natCast, histL_rd l m (by omega)]
  apply List.ext_getElem
  · rw [List.length_set, histL_length, histL_length]
  · intro j h2 h3
    rw [List.length_set, histL_length] at h2
    rw [List.getElem_set, histL_get, histL_get, List.count_append]
    by_cases e : m = j
    · subst e
      rw [if_pos rfl, List.count_singleton_self]
      omega
    · rw [if_neg e, List.count_singleton, if_neg (by simp; omega)]
      omega
theorem hist_wrap (l : List Int) (x : Int) (h0 : 0 ≤ x) (h1 : x ≤ 255) (hl : l.length ≤ 1000000) : wrap64 (rd (histL l) x + 1) = rd (histL l) x + 1 := by
  obtain ⟨m, rfl⟩ := Int.eq_ofNat_of_zero_le h0
  have hc := List.count_le_length (l := l) (a := (m : Int))
  rw [histL_rd l m (by omega)]
  exact wrapIn (by omega) (by omega)
theorem impl_histogram.ev_l0 (l : List Int) (hb : ∀ x ∈ l, 0 ≤ x ∧ x ≤ 255) (hl : l.length ≤ 1000000) (d : Nat) : ∀ i, i ≤ l.length → l.length - i = d →
    Ev (fun k => impl_histogram.l0 k (histL (l.take i)) l (l.length : Int) (i : Int)) (histL l) := by
  induction d with
  | zero =>
    intro i hi hd
    refine Ev.step (fun k => by simp only [impl_histogram.l0]; rfl) (evNeg (by omega) (evRet ?_))
    rw [List.take_of_length_le (by omega)]
  | succ d ih =>
    intro i hi hd
    have hlt : i < l.length := by omega
    have h1 := hb l[i] (List.getElem_mem hlt)
    have hs := histL_snoc (l.take i) l[i] h1.1 h1.2
    rw [← take_snocN l i hlt] at hs
    have hw := hist_wrap (l.take i) l[i] h1.1 h1.2 (by rw [List.length_take]; omega)
    refine Ev.step (fun k => by simp only [impl_histogram.l0, rdN l i hlt, wrapSucc i (by omega), hw, hs]; rfl) ?_
    refine evPos (by omega) (evPos (by omega) (evPos (by omega) (evPos h1.1 (evPos (by rw [histL_length]; omega) ?_))))
    exact ih (i + 1) (by omega) (by omega)
theorem impl_histogram.ev (a b c : Int) (l : List Int) (hb : ∀ x ∈ l, 0 ≤ x ∧ x ≤ 255) (hl : l.length ≤ 1000000) : Ev (fun k => impl_histogram.f k a b c l) (histL l) := by
  have h := impl_histogram.ev_l0 l hb hl l.length 0 (by omega) (by omega)
  unfold impl_histogram.f
  refine evPos (by omega) ?_
  rw [← histL_nil]
  exact h
/-- An image with one plane. -/
def GrayOk (a b c : Int) (l : List Int) : Prop := ImgOk a b c l ∧ c = 1
instance (a b c : Int) (l : List Int) : Decidable (GrayOk a b c l) := by unfold GrayOk; exact inferInstance
theorem impl_HistogramOf.ev (a b c : Int) (l : List Int) : Ev (fun k => impl_HistogramOf.f k a b c l) (if GrayOk a b c l then histL l else []) := by
  unfold impl_HistogramOf.f
  refine evFix (impl_isImage.eq a b c l) ?_
  by_cases h : ImgOk a b c l
  · refine evPos (decide_eq_true h) ?_
    by_cases h1 : c = 1
    · rw [if_pos (show GrayOk a b c l from ⟨h, h1⟩)]
      exact evPos h1 (evBind (impl_histogram.ev a b c l h.2.2.2.2 (by have := h.len; omega)) (evRet rfl))
    · rw [if_neg (fun hg : GrayOk a b c l => h1 hg.2)]
      exact evNeg h1 (evRet rfl)
  · rw [if_neg (fun hg : GrayOk a b c l => h hg.1)]
    exact evNeg (by rw [decide_eq_false h]; simp) (evRet rfl)
theorem spec_copyImage.val (a b c : Int) (l : List Int) (h : l.length < 17592186044416) : spec_copyImage.f a b c l = some (a, b, c, l) := by
  unfold spec_copyImage.f
  rw [spec_copyInts.val l h]
  rfl
theorem spec_MapImage.ev_l0 (l1 l : List Int) (hl1 : l1.length = 256) (hb : ∀ x ∈ l, 0 ≤ x ∧ x ≤ 255) (hlen : l.length ≤ 1024) (a b c a' b' c' : Int) (d : Nat) : ∀ i, i ≤ l.length → l.length - i = d →
    Ev (fun k => spec_MapImage.l0 k l1 (i : Int) a b c l a' b' c' (mapUpto (rd l1) l i)) (a', b', c', l.map (rd l1), true) := by
  induction d with
  | zero =>
    intro i hi hd
    refine Ev.step (fun k => by simp only [spec_MapImage.l0]; rfl) (evNeg (by rw [mapUpto_length _ _ _ hi]; omega) (evRet ?_))
    rw [show i = l.length by omega, mapUpto_all]
  | succ d ih =>
    intro i hi hd
    have hlt : i < l.length := by omega
    have h1 := hb l[i] (List.getElem_mem hlt)
    have hs := mapUpto_set (rd l1) l i hlt
    refine Ev.step (fun k => by simp only [spec_MapImage.l0, rdN l i hlt, wrapSucc i (by omega), hs]; rfl) ?_
    refine evPos (by rw [mapUpto_length _ _ _ hi]; omega) (evPos (by omega) (evPos (by omega) (evPos h1.1 (evPos (by omega) ?_))))
    exact ih (i + 1) (by omega) (by omega)
theorem spec_MapImage.ev (a b c : Int) (l l1 : List Int) (hl : l.length ≤ 9223372036854775806) (hl1 : l1.length ≤ 9223372036854775806) : Ev (fun k => spec_MapImage.f k a b c l l1) (if MapOk a b c l l1 then (a, b, c, l.map (rd l1), true) else (0, 0, 0, [], false)) := by
  have hv := spec_validImage.ev a b c l hl
  unfold spec_MapImage.f
  refine evBind hv ?_
  by_cases h : ImgOk a b c l
  · refine evPos (decide_eq_true h) ?_
    by_cases h2 : l1.length = 256
    · refine evPos (by omega) (evBind (spec_allIn.ev l1 0 255 hl1) ?_)
      rw [allB_bytes]
      by_cases h3 : ∀ x ∈ l1, 0 ≤ x ∧ x ≤ 255
      · rw [decide_eq_true h3, if_pos ⟨h, h2, h3⟩]
        refine Ev.step (fun k => by simp only [spec_MapImage.j0]; rfl) (evNeg (by simp) (evFix (spec_copyImage.val a b c l (by have := h.len; omega)) ?_))
        have h4 := spec_MapImage.ev_l0 l1 l h2 h.2.2.2.2 h.len.2 a b c a b c l.length 0 (by omega) (by omega)
        rw [mapUpto_zero] at h4
        exact h4
      · rw [decide_eq_false h3, if_neg (fun hm : MapOk a b c l l1 => h3 hm.2.2)]
        exact Ev.step (fun k => by simp only [spec_MapImage.j0]; rfl) (evPos (by trivial) (evRet rfl))
    · rw [if_neg (fun hm : MapOk a b c l l1 => h2 hm.2.1)]
      exact evNeg (by omega) (Ev.step (fun k => by simp only [spec_MapImage.j0]; rfl) (evPos (by trivial) (evRet rfl)))
  · rw [if_neg (fun hm : MapOk a b c l l1 => h hm.1)]
    exact evNeg (by rw [decide_eq_false h]; simp) (Ev.step (fun k => by simp only [spec_MapImage.j0]; rfl) (evPos (by trivial) (evRet rfl)))
theorem byte_nat {x : Int} (h0 : 0 ≤ x) (h1 : x ≤ 255) : ∃ n : Nat, x = n ∧ n < 256 := ⟨x.toNat, by omega, by omega⟩
theorem rd_byte {l1 : List Int} (h : l1.length = 256) (hb : ∀ x ∈ l1, 0 ≤ x ∧ x ≤ 255) (x : Int) (h0 : 0 ≤ x) (h1 : x ≤ 255) : 0 ≤ rd l1 x ∧ rd l1 x ≤ 255 := by
  obtain ⟨n, rfl, hn⟩ := byte_nat h0 h1
  rw [rdN _ n (by omega)]
  exact hb _ (List.getElem_mem _)
theorem map_ok {a b c : Int} {l : List Int} (f : Int → Int) (hf : ∀ x, 0 ≤ x → x ≤ 255 → 0 ≤ f x ∧ f x ≤ 255) (h : ImgOk a b c l) : ImgOk a b c (l.map f) :=
  ⟨h.1, h.2.1, h.2.2.1, by rw [List.length_map]; exact h.2.2.2.1, fun x hx => by
    obtain ⟨y, hy, rfl⟩ := List.mem_map.1 hx
    have := h.2.2.2.2 y hy
    exact hf y this.1 this.2⟩

theorem count_step (f : Int → Int) (l : List Int) (n v : Int) : (((l.filter fun x => decide (x < n + 1)).map f).count v) = ((l.filter fun x => decide (x < n)).map f).count v + (if f n = v then l.count n else 0) := by
  induction l with
  | nil => simp
  | cons x t ih =>
    rw [List.filter_cons, List.filter_cons]
    by_cases h1 : x < n
    · rw [if_pos (decide_eq_true (by omega)), if_pos (decide_eq_true h1), List.map_cons, List.map_cons, List.count_cons, List.count_cons, ih, List.count_cons_of_ne (by omega)]
      omega
    · by_cases h2 : x = n
      · subst h2
        rw [if_pos (decide_eq_true (by omega)), if_neg (by simp), List.map_cons, List.count_cons, ih, List.count_cons_self]
        by_cases h3 : f x = v
        · rw [if_pos h3, if_pos h3, if_pos (by simpa using h3)]; omega
        · rw [if_neg h3, if_neg h3, if_neg (by simpa using h3)]
      · rw [if_neg (by simp; omega), if_neg (by simp; omega), ih, List.count_cons_of_ne (by omega)]
theorem filter_all (l : List Int) (hb : ∀ x ∈ l, 0 ≤ x ∧ x ≤ 255) : (l.filter fun x => decide (x < ((256 : Nat) : Int))) = l := List.filter_eq_self.2 fun x hx => by have := hb x hx; simp; omega
theorem filter_none (l : List Int) (hb : ∀ x ∈ l, 0 ≤ x ∧ x ≤ 255) : (l.filter fun x => decide (x < ((0 : Nat) : Int))) = [] := List.filter_eq_nil_iff.2 fun x hx => by have := hb x hx; simp; omega
theorem hist_step (f : Int → Int) (l : List Int) (n : Nat) (h0 : 0 ≤ f n) (h1 : f n ≤ 255) :
    (histL ((l.filter fun x => decide (x < (n : Int))).map f)).set (f n).toNat (rd (histL ((l.filter fun x => decide (x < (n : Int))).map f)) (f n) + ((l.count (n : Int) : Nat) : Int)) = histL ((l.filter fun x => decide (x < ((n + 1 : Nat) : Int))).map f) := by
  obtain ⟨j, hj⟩ : ∃ j : Nat, f n = j := ⟨(f n).toNat, by omega⟩
  have e : ∀ v : Int, ((l.filter fun x => decide (x < ((n + 1 : Nat) : Int))).map f).count v = ((l.filter fun x => decide (x < (n : Int))).map f).count v + (if f n = v then l.count (n : Int) else 0) := fun v => by
    rw [show ((n + 1 : Nat) : Int) = (n : Int) + 1 by omega]
    exact count_step f l n v
  rw [hj, histL_rd _ j (by omega), Int.toNat_natCast]
  refine List.ext_getElem (by simp [histL]) fun i h2 h3 => ?_
  rw [histL_get _ _ (by simpa [histL] using h3), e, hj, List.getElem_set]
  by_cases hji : j = i
  · subst hji; rw [if_pos rfl, if_pos rfl]; omega
  · rw [if_neg hji, if_neg (by omega), histL_get]; rfl
theorem histMap_l0 (a b c : Int) (l l1 : List Int) (h : MapOk a b c l l1) (hc : c = 1) (d : Nat) : ∀ i, i ≤ 256 → 256 - i = d →
    Ev (fun k => laws_FnHistogramMap.l0 k l1 (histL l) (histL ((l.filter fun x => decide (x < (i : Int))).map (rd l1))) (i : Int) a b c (l.map (rd l1))) true := by
  obtain ⟨hi, h1, h2⟩ := h
  have hr := rd_byte h1 h2
  induction d with
  | zero =>
    intro i hle hd
    obtain rfl : i = 256 := by omega
    rw [filter_all l hi.2.2.2.2]
    have q1 := impl_HistogramOf.ev a b c (l.map (rd l1))
    rw [if_pos (show GrayOk a b c (l.map (rd l1)) from ⟨map_ok _ hr hi, hc⟩)] at q1
    have q2 := laws_equalInts.ev (histL (l.map (rd l1))) (histL (l.map (rd l1))) (by rw [histL_length]; omega)
    rw [decide_eq_true rfl] at q2
    refine Ev.step (fun k => by simp only [laws_FnHistogramMap.l0]; rfl) (evNeg (by omega) ?_)
    exact evBind q1 (evBind q2 (evRet rfl))
  | succ d ih =>
    intro i hle hd
    have h3 := hr (i : Int) (by omega) (by omega)
    have hn := ih (i + 1) (by omega) (by omega)
    have hlen : ((l.filter fun x => decide (x < (i : Int))).map (rd l1)).length ≤ 1024 := by
      rw [List.length_map]
      exact Nat.le_trans (List.length_filter_le _ _) hi.len.2
    obtain ⟨j, hj⟩ : ∃ j : Nat, rd l1 (i : Int) = j := ⟨(rd l1 (i : Int)).toNat, by omega⟩
    have hw : wrap64 (rd (histL ((l.filter fun x => decide (x < (i : Int))).map (rd l1))) (rd l1 (i : Int)) + rd (histL l) (i : Int)) = rd (histL ((l.filter fun x => decide (x < (i : Int))).map (rd l1))) (rd l1 (i : Int)) + ((l.count (i : Int) : Nat) : Int) := by
      have c1 := List.count_le_length (a := (j : Int)) (l := (l.filter fun x => decide (x < (i : Int))).map (rd l1))
      have c2 := List.count_le_length (a := (i : Int)) (l := l)
      have := hi.len
      rw [hj, histL_rd _ j (by omega), histL_rd l i (by omega), wrapIn (by omega) (by omega)]
    rw [← hist_step (rd l1) l i h3.1 h3.2, ← hw, ← wrapSucc i (by omega)] at hn
    refine Ev.step (fun k => by simp only [laws_FnHistogramMap.l0]; rfl) ?_
    clear hw
    exact evPos (by omega) (evPos (by rw [histL_length]; omega) (evPos (by omega) (evPos (by omega) (evPos h3.1 (evPos (by rw [histL_length]; omega) hn)))))
theorem FnHistogramMap : laws_FnHistogramMap.Pure := by
  intro code _ _ hw
  refine Ev.rounds ?_
  obtain ⟨a, b, c, l, l1, hd, hl, hl1⟩ := spec_DrawMapImage.ev code hw
  have h3 := spec_MapImage.ev a b c l l1 (by omega) (by omega)
  have h4 : impl_MapImage.f a b c l l1 = some (if MapOk a b c l l1 then (a, b, c, l.map (rd l1), true) else (0, 0, 0, [], false)) := rfl
  unfold laws_FnHistogramMap.f
  refine evIf (fun _ => evRet rfl) (fun _ => evBind hd (evFix h4 (evBind h3 ?_)))
  by_cases hg : MapOk a b c l l1
  · rw [if_pos hg] at *
    have q := laws_equalImage.refl a b c (l.map (rd l1)) (by rw [List.length_map]; omega)
    refine evBind q (evPos rfl (evNeg (by simp) (evPos rfl ?_)))
    have hgr : laws_gray.f a b c l = some (decide (c = 1)) := by
      have hv : impl_ValidImage.f a b c l = some true := by
        unfold impl_ValidImage.f
        rw [impl_isImage.eq, decide_eq_true hg.1]
        rfl
      unfold laws_gray.f
      rw [hv]
      rfl
    refine evFix hgr ?_
    by_cases hc : c = 1
    · rw [decide_eq_true hc]
      have h5 := impl_HistogramOf.ev a b c l
      rw [if_pos (show GrayOk a b c l from ⟨hg.1, hc⟩)] at h5
      refine Ev.step (fun k => by simp only [laws_FnHistogramMap.j0]; rfl) (evNeg (by simp) (evBind h5 ?_))
      refine evPos (show (256 : Nat) ≤ 35184372088832 by omega) ?_
      have h6 := histMap_l0 a b c l l1 hg hc 256 0 (by omega) (by omega)
      rw [filter_none l hg.1.2.2.2.2, List.map_nil, histL_nil] at h6
      exact h6
    · rw [decide_eq_false hc]
      exact Ev.step (fun k => by simp only [laws_FnHistogramMap.j0]; rfl) (evPos (by trivial) (evBind q (evPos rfl (evRet rfl))))
  · rw [if_neg hg] at *
    have q := laws_equalImage.refl 0 0 0 [] (by simp)
    refine evBind q (evPos rfl (evNeg (by simp) (evNeg (by simp) ?_)))
    exact Ev.step (fun k => by simp only [laws_FnHistogramMap.j0]; rfl) (evPos (by trivial) (evBind q (evPos rfl (evRet rfl))))

end Go.Proofs.Ytonolnojpejgnaa.Pure
