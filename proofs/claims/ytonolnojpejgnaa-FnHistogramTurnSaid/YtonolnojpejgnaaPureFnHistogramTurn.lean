/- FnHistogramTurn answers true for every code: turning and mirroring keep the histogram. No condition. -/
import Derived.Test.YtonolnojpejgnaaPrintHimplTurnImage
import Derived.Test.YtonolnojpejgnaaPrintHimplimageBy
import Derived.Test.YtonolnojpejgnaaPrintHx0
import Derived.Test.YtonolnojpejgnaaPrintHx2
import Derived.Test.YtonolnojpejgnaaPrintLFnHistogramTurn
import Derived.Test.YtonolnojpejgnaaPrintR0x0
import Derived.Test.YtonolnojpejgnaaPrintR0x1
import Derived.Test.YtonolnojpejgnaaPrintR1x0
import Derived.Test.YtonolnojpejgnaaPrintR1x1
import Derived.Test.YtonolnojpejgnaaPrintR1x2
namespace Go.Proofs.Ytonolnojpejgnaa.Pure
open Go.RowKit Go.Proofs.Ytonolnojpejgnaa.Print Go.Proofs.YtonolnojpejgnaaW.PrintWords Go.Proofs.YtonolnojpejgnaaW.PrintLast Go.Proofs.YtonolnojpejgnaaW.PrintMore
set_option linter.unusedVariables false
set_option linter.unusedSimpArgs false
theorem rdN (l : List Int) (k : Nat) (h : k < l.length) : rd l (k : Int) = l[k] := by
  simp [rd, List.getD_eq_getElem?_getD, List.getElem?_eq_getElem h]
theorem drop_cons_ {α : Type} (l : List α) (k : Nat) (h : k < l.length) : l.drop k = l[k] :: l.drop (k + 1) := List.drop_eq_getElem_cons h
theorem take_snocN {α : Type} (l : List α) (k : Nat) (h : k < l.length) : l.take (k + 1) = l.take k ++ [l[k]] := by
  rw [List.take_succ_eq_append_getElem h]
/-- Two lists of one length, from a place on. -/
theorem decide_drop_eq {α : Type} [DecidableEq α] (a b : List α) (i : Nat) (h1 : i < a.length) (h2 : i < b.length) : decide (a.drop i = b.drop i) = (decide (a[i] = b[i]) && decide (a.drop (i + 1) = b.drop (i + 1))) := by
  rw [drop_cons_ a i h1, drop_cons_ b i h2]
  rw [Bool.eq_iff_iff]
  simp only [decide_eq_true_eq, Bool.and_eq_true, List.cons.injEq]

/-- A code that a reader reads. -/
def CodeOk (b : List Int) : Prop := b.length ≤ 2000 ∧ ∀ x ∈ b, 0 ≤ x ∧ x ≤ 255
theorem code_rd (b : List Int) (h : CodeOk b) (i : Int) (h0 : 0 ≤ i) (h1 : i < b.length) : 0 ≤ rd b i ∧ rd b i ≤ 255 := by
  obtain ⟨n, rfl⟩ := Int.eq_ofNat_of_zero_le h0
  rw [rdN b n (by omega)]
  exact h.2 _ (List.getElem_mem _)
theorem xor_nonneg (a b : Int) (ha : 0 ≤ a) (ha1 : a < 4611686018427387904) (hb : 0 ≤ b) (hb1 : b < 4611686018427387904) : 0 ≤ Go.bits .xor .i64 a b := by
  obtain ⟨n, rfl⟩ := Int.eq_ofNat_of_zero_le ha
  obtain ⟨m, rfl⟩ := Int.eq_ofNat_of_zero_le hb
  have hx : n ^^^ m < 2 ^ 62 := Nat.xor_lt_two_pow (by omega) (by omega)
  have e : Go.bits .xor .i64 (n : Int) (m : Int) = ((n ^^^ m : Nat) : Int) := by
    have hp : (2 : Nat) ^ IntKind.i64.bits = 18446744073709551616 := by decide
    have ha' : n % 2 ^ IntKind.i64.bits = n := Nat.mod_eq_of_lt (by omega)
    have hb' : m % 2 ^ IntKind.i64.bits = m := Nat.mod_eq_of_lt (by omega)
    simp only [bits, BitVec.ofInt_natCast, BitVec.toNat_xor, BitVec.toNat_ofNat, ha', hb']
    rw [IntKind.wrap_i64]
    omega
  rw [e]
  omega
theorem spec_reader_pick.ev (b : List Int) (h : CodeOk b) (p n : Int) (hp0 : 0 ≤ p) (hp1 : p < 1000000000) (hn : n ≤ 1000000) : ∃ v, Ev (fun k => spec_reader_pick.f k b p n) (v, p + 1) ∧ 0 ≤ v ∧ (v < n ∨ v = 0) := by
  have hw : wrap64 (p + 1) = p + 1 := wrapIn (by omega) (by omega)
  have hw1 : wrap64 (p + 1 - 1) = p := by rw [wrapIn (by omega) (by omega)]; omega
  unfold spec_reader_pick.f
  rw [hw]
  by_cases hn1 : n < 1
  · refine ⟨0, evPos hn1 (Ev.step (fun k => by simp only [spec_reader_pick.j0]; rfl) (evPos (by trivial) (evRet rfl))), by omega, .inr rfl⟩
  by_cases hb : (b.length : Int) = 0
  · refine ⟨0, evNeg hn1 (Ev.step (fun k => by simp only [spec_reader_pick.j0]; rfl) (evPos (by simp [hb]) (evRet rfl))), by omega, .inr rfl⟩
  have hbf : ((b.length : Int) == 0) = false := by simpa using hb
  have hl := h.1
  by_cases hlt : p < (b.length : Int)
  · have hr := code_rd b h p hp0 hlt
    refine ⟨Int.tmod (wrap64 (rd b p)) n, evNeg hn1 (Ev.step (fun k => by simp only [spec_reader_pick.j0, hbf, hw1]; rfl) (evNeg (by simp) (evPos hlt (evPos hp0 (evNeg (by omega) (evRet rfl)))))), ?_, .inl ?_⟩
    · exact Int.tmod_nonneg _ (by rw [wrapIn (by omega) (by omega)]; omega)
    · exact Int.tmod_lt_of_pos _ (by omega)
  · have hm0 : 0 ≤ Int.tmod p (b.length : Int) := Int.tmod_nonneg _ hp0
    have hm1 : Int.tmod p (b.length : Int) < b.length := Int.tmod_lt_of_pos _ (by omega)
    have hq : wrap64 (wrap64 (p * 7) + 3) = p * 7 + 3 := by rw [wrapIn (x := p * 7) (by omega) (by omega), wrapIn (by omega) (by omega)]
    have hk0 : 0 ≤ Int.tmod (p * 7 + 3) (b.length : Int) := Int.tmod_nonneg _ (by omega)
    have hk1 : Int.tmod (p * 7 + 3) (b.length : Int) < b.length := Int.tmod_lt_of_pos _ (by omega)
    have r1 := code_rd b h _ hm0 hm1
    have r2 := code_rd b h _ hk0 hk1
    have hd0 : 0 ≤ Int.tdiv p (b.length : Int) := Int.tdiv_nonneg hp0 (by omega)
    have hd1 : Int.tdiv p (b.length : Int) ≤ p := by
      have := Int.natAbs_tdiv_le_natAbs p (b.length : Int)
      omega
    refine ⟨_, evNeg hn1 (Ev.step (fun k => by simp only [spec_reader_pick.j0, hbf, hw1, hq]; rfl) (evNeg (by simp) (evNeg hlt (evNeg hb (evPos hm0 (evPos hm1 (evPos hk0 (evPos hk1 (evNeg (by omega) (evRet rfl)))))))))), ?_, .inl (Int.tmod_lt_of_pos _ (by omega))⟩
    generalize rd b (Int.tmod p (b.length : Int)) = u at *
    generalize rd b (Int.tmod (p * 7 + 3) (b.length : Int)) = t at *
    generalize Int.tdiv p (b.length : Int) = q at *
    rw [wrapIn (x := u) (by omega) (by omega), wrapIn (x := t) (by omega) (by omega), wrapIn (x := q) (by omega) (by omega), wrapIn (x := u * 131) (by omega) (by omega), wrapIn (x := t * 1117) (by omega) (by omega), wrapIn (x := u * 131 + t * 1117) (by omega) (by omega), wrapIn (x := p * 29) (by omega) (by omega), wrapIn (x := u * 131 + t * 1117 + p * 29) (by omega) (by omega), wrapIn (x := q * 53) (by omega) (by omega), wrapIn (x := u * 131 + t * 1117 + p * 29 + q * 53) (by omega) (by omega)]
    generalize hX : u * 131 + t * 1117 + p * 29 + q * 53 = X
    have hX0 : 0 ≤ X := by omega
    have hX1 : X < 4611686018427387904 := by omega
    have hT0 : 0 ≤ Int.tdiv X 64 := Int.tdiv_nonneg hX0 (by omega)
    have hT1 : Int.tdiv X 64 ≤ X := by
      have := Int.natAbs_tdiv_le_natAbs X 64
      omega
    rw [wrapIn (x := Int.tdiv X 64) (by omega) (by omega)]
    exact Int.tmod_nonneg _ (xor_nonneg _ _ hX0 hX1 hT0 (by omega))
theorem spec_newReader.ev (l : List Int) (hw : ∀ x ∈ l, (Lit.int .u8 x).wf = true) : ∃ b, spec_newReader.f l = some (b, 0) ∧ CodeOk b := by
  have hx : ∀ x ∈ l, 0 ≤ x ∧ x ≤ 255 := fun x hx => by
    have := hw x hx
    have hmin : IntKind.u8.min = 0 := rfl
    have hmax : IntKind.u8.max = 255 := rfl
    simp only [Lit.wf, Bool.and_eq_true, decide_eq_true_eq] at this
    omega
  unfold spec_newReader.f
  by_cases h : (l.length : Int) > 2000
  · rw [if_pos h, if_pos (by omega)]
    exact ⟨_, rfl, by simp; omega, fun x h2 => hx x (List.mem_of_mem_take h2)⟩
  · rw [if_neg h]
    exact ⟨_, rfl, by omega, hx⟩

theorem spec_reader_one.ev (b : List Int) (h : CodeOk b) (p : Int) (hp0 : 0 ≤ p) (hp1 : p < 1000000000) (l : List Int) (hl0 : 0 < l.length) (hl1 : l.length ≤ 1000) : ∃ v, Ev (fun k => spec_reader_one.f k b p l) (v, p + 1) ∧ v ∈ l := by
  obtain ⟨v, hv, h0, h1⟩ := spec_reader_pick.ev b h p (l.length : Int) hp0 hp1 (by omega)
  have hlt : v < l.length := by omega
  refine ⟨rd l v, ?_, ?_⟩
  · unfold spec_reader_one.f
    exact evBind hv (evPos h0 (evPos hlt (evRet rfl)))
  · obtain ⟨n, rfl⟩ := Int.eq_ofNat_of_zero_le h0
    rw [rdN l n (by omega)]
    exact List.getElem_mem _

def Bytes (l : List Int) : Prop := ∀ x ∈ l, 0 ≤ x ∧ x ≤ 255
theorem Bytes.set {l : List Int} (h : Bytes l) (i : Nat) (v : Int) (h0 : 0 ≤ v) (h1 : v ≤ 255) : Bytes (l.set i v) := by
  intro x hx
  rcases List.mem_or_eq_of_mem_set hx with hx | rfl
  · exact h x hx
  · exact ⟨h0, h1⟩
theorem spec_newImage.val (a b c : Int) (ha : 1 ≤ a ∧ a ≤ 16) (hb : 1 ≤ b ∧ b ≤ 16) (hc : 1 ≤ c ∧ c ≤ 4) : spec_newImage.f a b c = some (a, b, c, List.replicate (a * b * c).toNat 0) := by
  obtain ⟨h1, h2, h3, h4⟩ := shape_prod ha hb hc
  unfold spec_newImage.f
  rw [shape_wrap ha hb hc, if_pos (by omega), if_pos (by omega)]
theorem spec_randomImage.ev_l0 (b : List Int) (h : CodeOk b) (kind W H n : Int) (N : Nat) (hN : N ≤ 100000) (d : Nat) : ∀ (i : Nat) (at_ p : Int) (l : List Int), l.length = N → i ≤ N → N - i = d → 0 ≤ at_ → at_ ≤ 255 → Bytes l → 0 ≤ p → p + d < 1000000000 →
    ∃ l' q, Ev (fun k => spec_randomImage.l0 k kind at_ (i : Int) b p W H n l) (W, H, n, l', q) ∧ l'.length = N ∧ Bytes l' ∧ p ≤ q ∧ q ≤ p + d := by
  induction d with
  | zero =>
    intro i at_ p l hl hi hd _ _ hb hp _
    exact ⟨l, p, Ev.step (fun k => by simp only [spec_randomImage.l0]; rfl) (evNeg (by omega) (evRet rfl)), hl, hb, by omega, by omega⟩
  | succ d ih =>
    intro i at_ p l hl hi hd h0 h1 hb hp hpd
    have hlt : (i : Int) < (l.length : Int) := by omega
    by_cases k0 : kind = 0
    · obtain ⟨v, hv, v0, v1⟩ := spec_reader_pick.ev b h p 256 hp (by omega) (by omega)
      obtain ⟨l', q, he, e1, e2, e3, e4⟩ := ih (i + 1) v (p + 1) (l.set (i : Int).toNat v) (by simpa using hl) (by omega) (by omega) v0 (by omega) (hb.set _ v v0 (by omega)) (by omega) (by omega)
      refine ⟨l', q, Ev.step (fun k => by simp only [spec_randomImage.l0, wrapSucc i (by omega)]; rfl) (evPos hlt (evPos k0 (evBind hv ?_))), e1, e2, by omega, by omega⟩
      exact evPos (show (0 : Int) ≤ (i : Int) by omega) he
    by_cases k1 : kind = 1
    · obtain ⟨v, hv, v0, v1⟩ := spec_reader_pick.ev b h p 5 hp (by omega) (by omega)
      have hw : wrap64 (wrap64 (at_ + v) + 254) = at_ + v + 254 := by rw [wrapIn (x := at_ + v) (by omega) (by omega), wrapIn (by omega) (by omega)]
      have t0 := Int.tmod_nonneg 256 (show 0 ≤ at_ + v + 254 by omega)
      have t1 := Int.tmod_lt_of_pos (at_ + v + 254) (show (0 : Int) < 256 by omega)
      obtain ⟨l', q, he, e1, e2, e3, e4⟩ := ih (i + 1) (Int.tmod (at_ + v + 254) 256) (p + 1) (l.set (i : Int).toNat (Int.tmod (at_ + v + 254) 256)) (by simpa using hl) (by omega) (by omega) t0 (by omega) (hb.set _ _ t0 (by omega)) (by omega) (by omega)
      refine ⟨l', q, Ev.step (fun k => by simp only [spec_randomImage.l0, wrapSucc i (by omega)]; rfl) (evPos hlt (evNeg k0 (evPos k1 (evBind hv ?_)))), e1, e2, by omega, by omega⟩
      simp only [hw]
      exact evPos (show (0 : Int) ≤ (i : Int) by omega) he
    by_cases k2 : kind = 2
    · obtain ⟨v, hv, v0, v1⟩ := spec_reader_pick.ev b h p 4 hp (by omega) (by omega)
      have hw : wrap64 (60 * v) = 60 * v := wrapIn (by omega) (by omega)
      obtain ⟨l', q, he, e1, e2, e3, e4⟩ := ih (i + 1) (60 * v) (p + 1) (l.set (i : Int).toNat (60 * v)) (by simpa using hl) (by omega) (by omega) (by omega) (by omega) (hb.set _ _ (by omega) (by omega)) (by omega) (by omega)
      refine ⟨l', q, Ev.step (fun k => by simp only [spec_randomImage.l0, wrapSucc i (by omega)]; rfl) (evPos hlt (evNeg k0 (evNeg k1 (evPos k2 (evBind hv ?_))))), e1, e2, by omega, by omega⟩
      simp only [hw]
      exact evPos (show (0 : Int) ≤ (i : Int) by omega) he
    · obtain ⟨l', q, he, e1, e2, e3, e4⟩ := ih (i + 1) at_ p (l.set (i : Int).toNat at_) (by simpa using hl) (by omega) (by omega) h0 h1 (hb.set _ _ h0 h1) (by omega) (by omega)
      exact ⟨l', q, Ev.step (fun k => by simp only [spec_randomImage.l0, wrapSucc i (by omega)]; rfl) (evPos hlt (evNeg k0 (evNeg k1 (evNeg k2 (evPos (by omega) he))))), e1, e2, by omega, by omega⟩
theorem spec_randomImage.ev (b : List Int) (h : CodeOk b) (p : Int) (hp0 : 0 ≤ p) (hp1 : p < 900000000) (n : Int) (hn : 1 ≤ n ∧ n ≤ 4) :
    ∃ W H l q, Ev (fun k => spec_randomImage.f k b p n) (W, H, n, l, q) ∧ ImgOk W H n l ∧ W ≤ 8 ∧ H ≤ 8 ∧ p ≤ q ∧ q ≤ p + 2000 := by
  obtain ⟨W, hW, mW⟩ := spec_reader_one.ev b h p hp0 (by omega) [3, 4, 2, 5, 1, 8, 6] (by simp) (by simp)
  obtain ⟨H, hH, mH⟩ := spec_reader_one.ev b h (p + 1) (by omega) (by omega) [3, 2, 4, 1, 5, 8] (by simp) (by simp)
  obtain ⟨kd, hk, k0, k1⟩ := spec_reader_pick.ev b h (p + 1 + 1) 4 (by omega) (by omega) (by omega)
  obtain ⟨at_, ha, a0, a1⟩ := spec_reader_pick.ev b h (p + 1 + 1 + 1) 256 (by omega) (by omega) (by omega)
  have bW : 1 ≤ W ∧ W ≤ 8 := by
    simp only [List.mem_cons, List.mem_nil_iff, or_false] at mW
    omega
  have bH : 1 ≤ H ∧ H ≤ 8 := by
    simp only [List.mem_cons, List.mem_nil_iff, or_false] at mH
    omega
  have hI := spec_newImage.val W H n ⟨bW.1, by omega⟩ ⟨bH.1, by omega⟩ hn
  obtain ⟨_, _, h3, h4⟩ := shape_prod (a := W) (b := H) (c := n) ⟨bW.1, by omega⟩ ⟨bH.1, by omega⟩ hn
  obtain ⟨l', q, he, e1, e2, e3, e4⟩ := spec_randomImage.ev_l0 b h kd W H n (W * H * n).toNat (by omega) (W * H * n).toNat 0 at_ (p + 1 + 1 + 1 + 1) (List.replicate (W * H * n).toNat 0) (by simp) (by omega) (by omega) a0 (by omega)
    (fun x hx => by rw [List.mem_replicate] at hx; omega) (by omega) (by omega)
  refine ⟨W, H, l', q, ?_, ⟨⟨bW.1, by omega⟩, ⟨bH.1, by omega⟩, hn, by omega, e2⟩, bW.2, bH.2, by omega, by omega⟩
  unfold spec_randomImage.f
  exact evBind hW (evBind hH (evFix hI (evBind hk (evBind ha he))))
theorem spec_spoilImage.ev (b : List Int) (h : CodeOk b) (p : Int) (hp0 : 0 ≤ p) (hp1 : p < 900000000) (W H n : Int) (l : List Int) (hl : 0 < l.length) :
    ∃ W' H' n' l' q, Ev (fun k => spec_spoilImage.f k b p W H n l) (W', H', n', l', q) ∧ l'.length ≤ l.length ∧ p ≤ q ∧ q ≤ p + 2 := by
  obtain ⟨v, hv, v0, v1⟩ := spec_reader_pick.ev b h p 40 hp0 (by omega) (by omega)
  unfold spec_spoilImage.f
  by_cases e0 : v = 0
  · obtain ⟨u, hu, _⟩ := spec_reader_one.ev b h (p + 1) (by omega) (by omega) [0, 17, wrap64 (W + 1)] (by simp) (by simp)
    exact ⟨u, H, n, l, p + 1 + 1, evBind hv (evPos e0 (evBind hu (evRet rfl))), by omega, by omega, by omega⟩
  by_cases e1 : v = 1
  · exact ⟨W, H, n, l.drop (1 : Int).toNat, p + 1, evBind hv (evNeg e0 (evPos e1 (evPos (by omega) (evRet rfl)))), by simp, by omega, by omega⟩
  by_cases e2 : v = 2
  · obtain ⟨u, hu, _⟩ := spec_reader_one.ev b h (p + 1) (by omega) (by omega) [-1, 256] (by simp) (by simp)
    exact ⟨W, H, n, l.set (0 : Int).toNat u, p + 1 + 1, evBind hv (evNeg e0 (evNeg e1 (evPos e2 (evBind hu (evPos (by omega) (evRet rfl)))))), by simp, by omega, by omega⟩
  by_cases e3 : v = 3
  · obtain ⟨u, hu, _⟩ := spec_reader_one.ev b h (p + 1) (by omega) (by omega) [0, 5] (by simp) (by simp)
    exact ⟨W, H, u, l, p + 1 + 1, evBind hv (evNeg e0 (evNeg e1 (evNeg e2 (evPos e3 (evBind hu (evRet rfl)))))), by omega, by omega, by omega⟩
  · exact ⟨W, H, n, l, p + 1, evBind hv (evNeg e0 (evNeg e1 (evNeg e2 (evNeg e3 (evRet rfl))))), by omega, by omega, by omega⟩
theorem spec_anyPlanes.ev (b : List Int) (h : CodeOk b) (p : Int) (hp0 : 0 ≤ p) (hp1 : p < 900000000) : ∃ n, Ev (fun k => spec_anyPlanes.f k b p) (n, p + 1) ∧ 1 ≤ n ∧ n ≤ 4 := by
  obtain ⟨u, hu, mu⟩ := spec_reader_one.ev b h p hp0 (by omega) [1, 3, 1, 4, 2] (by simp) (by simp)
  refine ⟨u, ?_, ?_⟩
  · unfold spec_anyPlanes.f
    exact evBind hu (evRet rfl)
  · simp only [List.mem_cons, List.mem_nil_iff, or_false] at mu
    omega
theorem spec_anyImage.ev (b : List Int) (h : CodeOk b) (p : Int) (hp0 : 0 ≤ p) (hp1 : p < 800000000) : ∃ W H n l q, Ev (fun k => spec_anyImage.f k b p) (W, H, n, l, q) ∧ l.length ≤ 1024 ∧ p ≤ q ∧ q ≤ p + 3000 := by
  obtain ⟨n, hn, n0, n1⟩ := spec_anyPlanes.ev b h p hp0 (by omega)
  obtain ⟨W, H, l, q, hr, ok, _, _, q0, q1⟩ := spec_randomImage.ev b h (p + 1) (by omega) (by omega) n ⟨n0, n1⟩
  obtain ⟨W', H', n', l', q', hs, e1, e2, e3⟩ := spec_spoilImage.ev b h q (by omega) (by omega) W H n l ok.len.1
  refine ⟨W', H', n', l', q', ?_, by have := ok.len.2; omega, by omega, by omega⟩
  unfold spec_anyImage.f
  exact evBind hn (evBind hr (evBind hs (evRet rfl)))

theorem spec_grayImage.ev (b : List Int) (h : CodeOk b) (p : Int) (hp0 : 0 ≤ p) (hp1 : p < 700000000) : ∃ W H n l q, Ev (fun k => spec_grayImage.f k b p) (W, H, n, l, q) ∧ l.length ≤ 1024 := by
  obtain ⟨v, hv, v0, v1⟩ := spec_reader_pick.ev b h p 20 hp0 (by omega) (by omega)
  unfold spec_grayImage.f
  by_cases e0 : v = 0
  · obtain ⟨W, H, n, l, q, he, h1, _, _⟩ := spec_anyImage.ev b h (p + 1) (by omega) (by omega)
    exact ⟨W, H, n, l, q, evBind hv (evPos e0 (evBind he (evRet rfl))), h1⟩
  · obtain ⟨W, H, l, q, hr, ok, _, _, q0, q1⟩ := spec_randomImage.ev b h (p + 1) (by omega) (by omega) 1 (by omega)
    obtain ⟨W', H', n', l', q', hs, e1, e2, e3⟩ := spec_spoilImage.ev b h q (by omega) (by omega) W H 1 l ok.len.1
    exact ⟨W', H', n', l', q', evBind hv (evNeg e0 (evBind hr (evBind hs (evRet rfl)))), by have := ok.len.2; omega⟩

theorem spec_DrawHistogramOf.ev (l : List Int) (hw : ∀ x ∈ l, (Lit.int .u8 x).wf = true) : ∃ W H n r, Ev (fun k => spec_DrawHistogramOf.f k l) (W, H, n, r) ∧ r.length ≤ 1024 := by
  obtain ⟨b, hb, hc⟩ := spec_newReader.ev l hw
  obtain ⟨W, H, n, r, q, he, h1⟩ := spec_grayImage.ev b hc 0 (by omega) (by omega)
  refine ⟨W, H, n, r, ?_, h1⟩
  unfold spec_DrawHistogramOf.f
  exact evFix hb (evBind he (evRet rfl))
theorem inRange_val (a lo hi : Int) : spec_inRange.f a lo hi = some (decide (lo ≤ a ∧ a ≤ hi)) := by
  unfold spec_inRange.f
  split
  · rename_i h; simp [h]
  · rename_i h; simp [h]

/-- All numbers of a list lie in a range. -/
def allB (lo hi : Int) (l : List Int) : Bool := l.all fun x => decide (lo ≤ x ∧ x ≤ hi)
theorem allB_iff (lo hi : Int) (l : List Int) : allB lo hi l = true ↔ ∀ x ∈ l, lo ≤ x ∧ x ≤ hi := by
  unfold allB
  rw [List.all_eq_true]
  simp only [decide_eq_true_eq]
theorem spec_allIn.ev_l0 (l : List Int) (lo hi : Int) (hl : l.length ≤ 9223372036854775806) (d : Nat) : ∀ i, i ≤ l.length → l.length - i = d →
    Ev (fun k => spec_allIn.l0 k l lo hi (i : Int)) (allB lo hi (l.drop i)) := by
  induction d with
  | zero =>
    intro i hi' hd
    refine Ev.step (fun k => by simp only [spec_allIn.l0]; rfl) (evNeg (by omega) (evRet ?_))
    rw [List.drop_of_length_le (by omega)]
    rfl
  | succ d ih =>
    intro i hi' hd
    have hw : wrap64 ((i : Int) + 1) = ((i + 1 : Nat) : Int) := wrapSucc i (by omega)
    refine Ev.step (fun k => by simp only [spec_allIn.l0, hw]; rfl) (evPos (by omega) (evPos (by omega) ?_))
    rw [rdN l i (by omega), drop_cons_ l i (by omega)]
    have hr : spec_inRange.f l[i] lo hi = some (decide (lo ≤ l[i] ∧ l[i] ≤ hi)) := by
      unfold spec_inRange.f
      split
      · rename_i h; simp [h]
      · rename_i h; simp [h]
    have e : allB lo hi (l[i] :: l.drop (i + 1)) = (decide (lo ≤ l[i] ∧ l[i] ≤ hi) && allB lo hi (l.drop (i + 1))) := by
      unfold allB
      rw [List.all_cons]
    rw [e]
    refine evFix hr (evIf (fun h => ?_) (fun h => evRet ?_))
    · rw [h, Bool.true_and]
      exact ih (i + 1) (by omega) (by omega)
    · rw [Bool.eq_false_iff.mpr h, Bool.false_and]
theorem spec_allIn.ev (l : List Int) (lo hi : Int) (hl : l.length ≤ 9223372036854775806) : Ev (fun k => spec_allIn.f k l lo hi) (allB lo hi l) := by
  have := spec_allIn.ev_l0 l lo hi hl l.length 0 (by omega) (by omega)
  unfold spec_allIn.f
  simpa using this

theorem spec_validShape.val (a b c : Int) : spec_validShape.f a b c = some (decide ((1 ≤ a ∧ a ≤ 16) ∧ (1 ≤ b ∧ b ≤ 16) ∧ (1 ≤ c ∧ c ≤ 4))) := by
  unfold spec_validShape.f
  rw [inRange_val, inRange_val, inRange_val]
  simp only [Option.bind_some, decide_eq_true_eq]
  by_cases h1 : 1 ≤ a ∧ a ≤ 16
  · rw [if_pos h1]
    by_cases h2 : 1 ≤ b ∧ b ≤ 16
    · rw [if_pos h2]
      congr 1
      rw [Bool.eq_iff_iff]
      simp only [decide_eq_true_eq]
      exact ⟨fun h => ⟨h1, h2, h⟩, fun h => h.2.2⟩
    · rw [if_neg h2, decide_eq_false (fun h => h2 h.2.1)]
  · rw [if_neg h1, decide_eq_false (fun h => h1 h.1)]
theorem allB_bytes (l : List Int) : allB 0 255 l = decide (∀ x ∈ l, 0 ≤ x ∧ x ≤ 255) := by
  rw [Bool.eq_iff_iff, allB_iff, decide_eq_true_eq]
theorem spec_validImage.ev (a b c : Int) (l : List Int) (hl : l.length ≤ 9223372036854775806) : Ev (fun k => spec_validImage.f k a b c l) (decide (ImgOk a b c l)) := by
  unfold spec_validImage.f
  refine evFix (spec_validShape.val a b c) ?_
  by_cases h : (1 ≤ a ∧ a ≤ 16) ∧ (1 ≤ b ∧ b ≤ 16) ∧ (1 ≤ c ∧ c ≤ 4)
  · refine evPos (decide_eq_true h) ?_
    rw [shape_wrap h.1 h.2.1 h.2.2]
    by_cases h2 : (l.length : Int) = a * b * c
    · refine evPos h2 ?_
      have h3 := spec_allIn.ev l 0 255 hl
      refine evBind h3 (evRet ?_)
      rw [allB_bytes, Bool.eq_iff_iff]
      simp only [decide_eq_true_eq]
      exact ⟨fun h3 => ⟨h.1, h.2.1, h.2.2, h2, h3⟩, fun hh => hh.2.2.2.2⟩
    · exact evNeg h2 (evRet (decide_eq_false (fun hh : ImgOk a b c l => h2 hh.2.2.2.1)).symm)
  · exact evNeg (by rw [decide_eq_false h]; simp) (evRet (decide_eq_false (fun hh : ImgOk a b c l => h ⟨hh.1, hh.2.1, hh.2.2.1⟩)).symm)

/-- How often each number of 0..255 stands in a list. -/
def histL (l : List Int) : List Int := (List.range 256).map fun (n : Nat) => ((l.count (n : Int) : Nat) : Int)
theorem histL_length (l : List Int) : (histL l).length = 256 := by simp [histL]
theorem histL_get (l : List Int) (n : Nat) (h : n < (histL l).length) : (histL l)[n] = ((l.count (n : Int) : Nat) : Int) := by simp [histL]
theorem histL_rd (l : List Int) (n : Nat) (h : n < 256) : rd (histL l) (n : Int) = ((l.count (n : Int) : Nat) : Int) := by
  rw [rdN _ n (by rw [histL_length]; exact h), histL_get]
theorem histL_nil : histL [] = List.replicate 256 0 := by
  apply List.ext_getElem
  · rw [histL_length, List.length_replicate]
  · intro j h1 h2
    rw [histL_get, List.getElem_replicate]
    rfl
theorem histL_snoc (l : List Int) (x : Int) (h0 : 0 ≤ x) (h1 : x ≤ 255) : (histL l).set x.toNat (rd (histL l) x + 1) = histL (l ++ [x]) := by
  obtain ⟨m, rfl⟩ := Int.eq_ofNat_of_zero_le h0
  rw [Int.toNat_natCast, histL_rd l m (by omega)]
  apply List.ext_getElem
  · rw [List.length_set, histL_length, histL_length]
  · intro j h2 h3
    rw [List.length_set, histL_length] at h2
    rw [List.getElem_set, histL_get, histL_get, List.count_append]
    by_cases e : m = j
    · subst e
      rw [if_pos rfl, List.count_singleton_self]
      omega
    · rw [if_neg e, List.count_singleton, if_neg (by simp; omega)]
      omega
theorem hist_wrap (l : List Int) (x : Int) (h0 : 0 ≤ x) (h1 : x ≤ 255) (hl : l.length ≤ 1000000) : wrap64 (rd (histL l) x + 1) = rd (histL l) x + 1 := by
  obtain ⟨m, rfl⟩ := Int.eq_ofNat_of_zero_le h0
  have hc := List.count_le_length (l := l) (a := (m : Int))
  rw [histL_rd l m (by omega)]
  exact wrapIn (by omega) (by omega)
theorem spec_histogram.ev_l0 (l : List Int) (hb : ∀ x ∈ l, 0 ≤ x ∧ x ≤ 255) (hl : l.length ≤ 1000000) (d : Nat) : ∀ i, i ≤ l.length → l.length - i = d →
    Ev (fun k => spec_histogram.l0 k l (histL (l.take i)) (i : Int)) (histL l) := by
  induction d with
  | zero =>
    intro i hi hd
    refine Ev.step (fun k => by simp only [spec_histogram.l0]; rfl) (evNeg (by omega) (evRet ?_))
    rw [List.take_of_length_le (by omega)]
  | succ d ih =>
    intro i hi hd
    have hlt : i < l.length := by omega
    have h1 := hb l[i] (List.getElem_mem hlt)
    have hs := histL_snoc (l.take i) l[i] h1.1 h1.2
    rw [← take_snocN l i hlt] at hs
    have hw := hist_wrap (l.take i) l[i] h1.1 h1.2 (by rw [List.length_take]; omega)
    refine Ev.step (fun k => by simp only [spec_histogram.l0, rdN l i hlt, wrapSucc i (by omega), hw, hs]; rfl) ?_
    refine evPos (by omega) (evPos (by omega) (evPos h1.1 (evPos (by rw [histL_length]; omega) ?_)))
    exact ih (i + 1) (by omega) (by omega)
theorem spec_histogram.ev (l : List Int) (hb : ∀ x ∈ l, 0 ≤ x ∧ x ≤ 255) (hl : l.length ≤ 1000000) : Ev (fun k => spec_histogram.f k l) (histL l) := by
  have h := spec_histogram.ev_l0 l hb hl l.length 0 (by omega) (by omega)
  unfold spec_histogram.f
  refine evPos (by omega) ?_
  rw [← histL_nil]
  exact h
theorem impl_histogram.ev_l0 (l : List Int) (hb : ∀ x ∈ l, 0 ≤ x ∧ x ≤ 255) (hl : l.length ≤ 1000000) (d : Nat) : ∀ i, i ≤ l.length → l.length - i = d →
    Ev (fun k => impl_histogram.l0 k (histL (l.take i)) l (l.length : Int) (i : Int)) (histL l) := by
  induction d with
  | zero =>
    intro i hi hd
    refine Ev.step (fun k => by simp only [impl_histogram.l0]; rfl) (evNeg (by omega) (evRet ?_))
    rw [List.take_of_length_le (by omega)]
  | succ d ih =>
    intro i hi hd
    have hlt : i < l.length := by omega
    have h1 := hb l[i] (List.getElem_mem hlt)
    have hs := histL_snoc (l.take i) l[i] h1.1 h1.2
    rw [← take_snocN l i hlt] at hs
    have hw := hist_wrap (l.take i) l[i] h1.1 h1.2 (by rw [List.length_take]; omega)
    refine Ev.step (fun k => by simp only [impl_histogram.l0, rdN l i hlt, wrapSucc i (by omega), hw, hs]; rfl) ?_
    refine evPos (by omega) (evPos (by omega) (evPos (by omega) (evPos h1.1 (evPos (by rw [histL_length]; omega) ?_))))
    exact ih (i + 1) (by omega) (by omega)
theorem impl_histogram.ev (a b c : Int) (l : List Int) (hb : ∀ x ∈ l, 0 ≤ x ∧ x ≤ 255) (hl : l.length ≤ 1000000) : Ev (fun k => impl_histogram.f k a b c l) (histL l) := by
  have h := impl_histogram.ev_l0 l hb hl l.length 0 (by omega) (by omega)
  unfold impl_histogram.f
  refine evPos (by omega) ?_
  rw [← histL_nil]
  exact h
/-- An image with one plane. -/
def GrayOk (a b c : Int) (l : List Int) : Prop := ImgOk a b c l ∧ c = 1
instance (a b c : Int) (l : List Int) : Decidable (GrayOk a b c l) := by unfold GrayOk; exact inferInstance
theorem impl_HistogramOf.ev (a b c : Int) (l : List Int) : Ev (fun k => impl_HistogramOf.f k a b c l) (if GrayOk a b c l then histL l else []) := by
  unfold impl_HistogramOf.f
  refine evFix (impl_isImage.eq a b c l) ?_
  by_cases h : ImgOk a b c l
  · refine evPos (decide_eq_true h) ?_
    by_cases h1 : c = 1
    · rw [if_pos (show GrayOk a b c l from ⟨h, h1⟩)]
      exact evPos h1 (evBind (impl_histogram.ev a b c l h.2.2.2.2 (by have := h.len; omega)) (evRet rfl))
    · rw [if_neg (fun hg : GrayOk a b c l => h1 hg.2)]
      exact evNeg h1 (evRet rfl)
  · rw [if_neg (fun hg : GrayOk a b c l => h hg.1)]
    exact evNeg (by rw [decide_eq_false h]; simp) (evRet rfl)
theorem spec_HistogramOf.ev (a b c : Int) (l : List Int) (hl : l.length ≤ 9223372036854775806) : Ev (fun k => spec_HistogramOf.f k a b c l) (if GrayOk a b c l then histL l else []) := by
  unfold spec_HistogramOf.f
  refine evBind (spec_validImage.ev a b c l hl) ?_
  by_cases h : ImgOk a b c l
  · refine evPos (decide_eq_true h) ?_
    by_cases h1 : c = 1
    · rw [if_pos (show GrayOk a b c l from ⟨h, h1⟩)]
      exact evPos h1 (evBind (spec_histogram.ev l h.2.2.2.2 (by have := h.len; omega)) (evRet rfl))
    · rw [if_neg (fun hg : GrayOk a b c l => h1 hg.2)]
      exact evNeg h1 (evRet rfl)
  · rw [if_neg (fun hg : GrayOk a b c l => h hg.1)]
    exact evNeg (by rw [decide_eq_false h]; simp) (evRet rfl)

def sumN (g : Nat → Nat) : Nat → Nat
  | 0 => 0
  | n + 1 => sumN g n + g n
theorem sumN_congr {g h : Nat → Nat} (n : Nat) (e : ∀ i, i < n → g i = h i) : sumN g n = sumN h n := by
  induction n with
  | zero => rfl
  | succ n ih =>
    show sumN g n + g n = sumN h n + h n
    rw [ih (fun i hi => e i (by omega)), e n (by omega)]
theorem sumN_add (g h : Nat → Nat) (n : Nat) : sumN (fun i => g i + h i) n = sumN g n + sumN h n := by
  induction n with
  | zero => rfl
  | succ n ih =>
    show sumN (fun i => g i + h i) n + (g n + h n) = (sumN g n + g n) + (sumN h n + h n)
    rw [ih]
    omega
theorem sumN_zero (n : Nat) : sumN (fun _ => 0) n = 0 := by
  induction n with
  | zero => rfl
  | succ n ih => show sumN (fun _ => 0) n + 0 = 0; rw [ih]
theorem sumN_swap (g : Nat → Nat → Nat) (m n : Nat) : sumN (fun x => sumN (fun y => g x y) n) m = sumN (fun y => sumN (fun x => g x y) m) n := by
  induction m with
  | zero => exact (sumN_zero n).symm
  | succ m ih =>
    show sumN (fun x => sumN (fun y => g x y) n) m + sumN (fun y => g m y) n = sumN (fun y => sumN (fun x => g x y) m + g m y) n
    rw [ih, ← sumN_add]
theorem sumN_front (g : Nat → Nat) (n : Nat) : sumN g (n + 1) = g 0 + sumN (fun i => g (i + 1)) n := by
  induction n with
  | zero => show 0 + g 0 = g 0 + 0; omega
  | succ n ih =>
    show sumN g (n + 1) + g (n + 1) = g 0 + (sumN (fun i => g (i + 1)) n + g (n + 1))
    rw [ih]
    omega
theorem sumN_rev (g : Nat → Nat) (n : Nat) : sumN (fun i => g (n - 1 - i)) n = sumN g n := by
  induction n with
  | zero => rfl
  | succ n ih =>
    rw [sumN_front]
    have e : sumN (fun i => g (n + 1 - 1 - (i + 1))) n = sumN (fun i => g (n - 1 - i)) n := sumN_congr n fun i hi => by rw [show n + 1 - 1 - (i + 1) = n - 1 - i by omega]
    rw [e, ih]
    show g (n + 1 - 1 - 0) + sumN g n = sumN g n + g n
    rw [show n + 1 - 1 - 0 = n by omega]
    omega
/-- The places of an image, row by row. -/
theorem sumN_rows (g : Nat → Nat → Nat) (W H : Nat) (hW : 0 < W) : sumN (fun i => g (i % W) (i / W)) (W * H) = sumN (fun y => sumN (fun x => g x y) W) H := by
  have row : ∀ y n, n ≤ W → sumN (fun i => g (i % W) (i / W)) (W * y + n) = sumN (fun i => g (i % W) (i / W)) (W * y) + sumN (fun x => g x y) n := by
    intro y n
    induction n with
    | zero => intro _; rfl
    | succ n ih =>
      intro hn
      show sumN (fun i => g (i % W) (i / W)) (W * y + n) + g ((W * y + n) % W) ((W * y + n) / W) = sumN (fun i => g (i % W) (i / W)) (W * y) + (sumN (fun x => g x y) n + g n y)
      rw [ih (by omega), Nat.mul_add_mod, Nat.mod_eq_of_lt (by omega), Nat.mul_add_div hW, Nat.div_eq_of_lt (by omega), Nat.add_zero]
      omega
  induction H with
  | zero => rfl
  | succ H ih =>
    rw [Nat.mul_succ, row H W (Nat.le_refl _), ih]
    rfl
theorem count_take (l : List Int) (v : Int) (n : Nat) (hn : n ≤ l.length) : (l.take n).count v = sumN (fun i => if rd l (i : Int) = v then 1 else 0) n := by
  induction n with
  | zero => simp [sumN]
  | succ n ih =>
    have hlt : n < l.length := by omega
    rw [List.take_succ_eq_append_getElem hlt, List.count_append, ih (by omega)]
    show sumN (fun i => if rd l (i : Int) = v then 1 else 0) n + List.count v [l[n]] = sumN (fun i => if rd l (i : Int) = v then 1 else 0) n + (if rd l (n : Int) = v then 1 else 0)
    rw [rdN l n hlt, List.count_singleton]
    by_cases h : l[n] = v
    · rw [if_pos h, if_pos (by rw [beq_iff_eq]; exact h)]
    · rw [if_neg h, if_neg (by rw [beq_iff_eq]; exact h)]
theorem count_sum (l : List Int) (v : Int) : l.count v = sumN (fun i => if rd l (i : Int) = v then 1 else 0) l.length := by
  have h := count_take l v l.length (Nat.le_refl _)
  rwa [List.take_length] at h
theorem count_pixels (f : Nat → Nat → List Int) (a : Nat → Nat → Int) (W H : Nat) (hf : ∀ x y, x < W → y < H → f x y = [a x y]) (v : Int) (n : Nat) (hn : n ≤ W * H) : (pixelsUpto f W n).count v = sumN (fun i => if a (i % W) (i / W) = v then 1 else 0) n := by
  induction n with
  | zero => rfl
  | succ n ih =>
    have h1 := ih (by omega)
    have hW : 0 < W := by
      rcases Nat.eq_zero_or_pos W with h | h
      · subst h; omega
      · exact h
    unfold pixelsUpto at h1 ⊢
    rw [List.range_succ, List.flatMap_append, List.count_append, h1, List.flatMap_cons, List.flatMap_nil, List.append_nil, hf (n % W) (n / W) (Nat.mod_lt _ hW) (by rw [Nat.div_lt_iff_lt_mul hW, Nat.mul_comm]; omega), List.count_singleton]
    show _ = sumN (fun i => if a (i % W) (i / W) = v then 1 else 0) n + (if a (n % W) (n / W) = v then 1 else 0)
    by_cases h : a (n % W) (n / W) = v
    · rw [if_pos h, if_pos (by rw [beq_iff_eq]; exact h)]
    · rw [if_neg h, if_neg (by rw [beq_iff_eq]; exact h)]
theorem pixN_one {W H : Nat} {l : List Int} {x y : Nat} (hx : x < W) (hy : y < H) (hl : l.length = W * H * 1) : pixN W 1 l x y = [rd l ((y * W + x : Nat) : Int)] := by
  have h := pix_lt (p := 1) hx hy
  have hlt : y * W + x < l.length := by omega
  unfold pixN
  rw [Nat.mul_one, List.take_succ_eq_append_getElem hlt, List.drop_append_of_le_length (by rw [List.length_take]; omega), List.drop_of_length_le (by rw [List.length_take]; omega), List.nil_append, rdN l _ hlt]
theorem place_sum (l : List Int) (W H : Nat) (hl : l.length = W * H * 1) (hW : 0 < W) (v : Int) : l.count v = sumN (fun y => sumN (fun x => if rd l ((y * W + x : Nat) : Int) = v then 1 else 0) W) H := by
  rw [← sumN_rows (fun x y => if rd l ((y * W + x : Nat) : Int) = v then 1 else 0) W H hW, count_sum, hl, Nat.mul_one]
  refine sumN_congr _ fun i hi => ?_
  rw [show i / W * W + i % W = i by rw [Nat.mul_comm]; exact Nat.div_add_mod i W]
theorem count_turn (l : List Int) (W H : Nat) (hl : l.length = W * H * 1) (hW : 0 < W) (hH : 0 < H) (v : Int) : (pixelsUpto (fun x y => pixN W 1 l y (H - 1 - x)) H (H * W)).count v = l.count v := by
  rw [count_pixels _ (fun x y => rd l (((H - 1 - x) * W + y : Nat) : Int)) H W (fun x y hx hy => pixN_one hy (by omega) hl) v (H * W) (Nat.le_refl _), sumN_rows (fun x y => if rd l (((H - 1 - x) * W + y : Nat) : Int) = v then 1 else 0) H W hH, place_sum l W H hl hW v, sumN_swap]
  exact sumN_rev (fun y => sumN (fun x => if rd l ((y * W + x : Nat) : Int) = v then 1 else 0) W) H
theorem count_mirror (l : List Int) (W H : Nat) (hl : l.length = W * H * 1) (hW : 0 < W) (v : Int) : (pixelsUpto (fun x y => pixN W 1 l (W - 1 - x) y) W (W * H)).count v = l.count v := by
  rw [count_pixels _ (fun x y => rd l ((y * W + (W - 1 - x) : Nat) : Int)) W H (fun x y hx hy => pixN_one (by omega) hy hl) v (W * H) (Nat.le_refl _), sumN_rows (fun x y => if rd l ((y * W + (W - 1 - x) : Nat) : Int) = v then 1 else 0) W H hW, place_sum l W H hl hW v]
  refine sumN_congr H fun y _ => ?_
  exact sumN_rev (fun x => if rd l ((y * W + x : Nat) : Int) = v then 1 else 0) W

theorem laws_equalInts.ev_l0 (a b : List Int) (hab : a.length = b.length) (hl : a.length ≤ 9223372036854775807) (d : Nat) : ∀ i, i ≤ a.length → a.length - i = d →
    Ev (fun k => laws_equalInts.l0 k a b (i : Int)) (decide (a.drop i = b.drop i)) := by
  induction d with
  | zero =>
    intro i hi hd
    refine Ev.step (fun k => by simp only [laws_equalInts.l0]; rfl) (evNeg (by omega) (evRet ?_))
    rw [List.drop_of_length_le (by omega), List.drop_of_length_le (by omega)]
    rfl
  | succ d ih =>
    intro i hi hd
    have hw : wrap64 ((i : Int) + 1) = ((i + 1 : Nat) : Int) := wrapSucc i (by omega)
    refine Ev.step (fun k => by simp only [laws_equalInts.l0, hw]; rfl) (evPos (by omega) (evPos (by omega) (evPos (by omega) ?_)))
    rw [decide_drop_eq a b i (by omega) (by omega), rdN a i (by omega), rdN b i (by omega)]
    refine evIf (fun h => ?_) (fun h => evRet ?_)
    · rw [decide_eq_true h, Bool.true_and]
      exact ih (i + 1) (by omega) (by omega)
    · rw [decide_eq_false h, Bool.false_and]
theorem laws_equalInts.ev (a b : List Int) (hl : a.length ≤ 9223372036854775807) : Ev (fun k => laws_equalInts.f k a b) (decide (a = b)) := by
  unfold laws_equalInts.f
  refine evIf (fun h => ?_) (fun h => evRet ?_)
  · have := laws_equalInts.ev_l0 a b (by omega) hl a.length 0 (by omega) (by omega)
    simpa using this
  · rw [eq_comm, decide_eq_false_iff_not]
    intro hab
    exact h (by rw [hab])

theorem hist_eq {l l' : List Int} (h : ∀ v, l.count v = l'.count v) : histL l = histL l' := by
  unfold histL
  exact List.map_congr_left fun n _ => by rw [h]
theorem pixN_mem2 {W p : Nat} {l : List Int} {x y : Nat} {v : Int} (h : v ∈ pixN W p l x y) : v ∈ l := List.mem_of_mem_take (List.mem_of_mem_drop h)
theorem pixels_mem {f : Nat → Nat → List Int} {W n : Nat} {l : List Int} (hf : ∀ x y v, v ∈ f x y → v ∈ l) {v : Int} (h : v ∈ pixelsUpto f W n) : v ∈ l := by
  unfold pixelsUpto at h
  obtain ⟨i, _, hi⟩ := List.mem_flatMap.1 h
  exact hf _ _ v hi
theorem histTurn_yes (W H : Nat) (l : List Int) (hok : ImgOk (W : Int) (H : Int) ((1 : Nat) : Int) l) (hl : l.length = W * H * 1) (b1 : 1 ≤ W) (b2 : 1 ≤ H) (b4 : W ≤ 16) (b5 : H ≤ 16) :
    (∃ L, impl_TurnImage.f (W : Int) (H : Int) ((1 : Nat) : Int) l 1 = some ((H : Int), (W : Int), ((1 : Nat) : Int), L) ∧ GrayOk (H : Int) (W : Int) ((1 : Nat) : Int) L ∧ histL L = histL l) ∧
    (∃ L, impl_MirrorImage.f (W : Int) (H : Int) ((1 : Nat) : Int) l = some ((W : Int), (H : Int), ((1 : Nat) : Int), L) ∧ GrayOk (W : Int) (H : Int) ((1 : Nat) : Int) L ∧ histL L = histL l) := by
  constructor
  · refine ⟨pixelsUpto (fun x y => pixN W 1 l y (H - 1 - x)) H (H * W), ?_, ⟨⟨by omega, by omega, by omega, ?_, fun v hv => hok.2.2.2.2 v (pixels_mem (fun x y v h => pixN_mem2 h) hv)⟩, rfl⟩, hist_eq (count_turn l W H hl (by omega) (by omega))⟩
    · unfold impl_TurnImage.f
      rw [if_pos (show TurnKOk (W : Int) (H : Int) ((1 : Nat) : Int) l 1 from ⟨hok, by omega, by omega⟩)]
      rfl
    · rw [turn_len W H 1 l hl]
      push_cast
      rfl
  · refine ⟨pixelsUpto (fun x y => pixN W 1 l (W - 1 - x) y) W (W * H), ?_, ⟨⟨by omega, by omega, by omega, ?_, fun v hv => hok.2.2.2.2 v (pixels_mem (fun x y v h => pixN_mem2 h) hv)⟩, rfl⟩, hist_eq (count_mirror l W H hl (by omega))⟩
    · unfold impl_MirrorImage.f
      rw [if_pos hok]
      rfl
    · rw [pixelsUpto_lenB _ W H 1 (fun x y hx hy => pixN_length (show W - 1 - x < W by omega) hy hl) (W * H) (Nat.le_refl _)]
      push_cast
      rfl
theorem FnHistogramTurn : laws_FnHistogramTurn.Pure := by
  intro code _ _ hw
  refine Ev.rounds ?_
  obtain ⟨a, b, c, l, hd, hl⟩ := spec_DrawHistogramOf.ev code hw
  have h3 := spec_HistogramOf.ev a b c l (by omega)
  have h4 := impl_HistogramOf.ev a b c l
  have heq := laws_equalInts.ev (if GrayOk a b c l then histL l else []) (if GrayOk a b c l then histL l else []) (by split <;> simp [histL_length])
  rw [decide_eq_true rfl] at heq
  unfold laws_FnHistogramTurn.f
  refine evIf (fun _ => evRet rfl) (fun _ => evBind hd (evBind h4 (evBind h3 (evBind heq (evPos rfl ?_)))))
  clear h3 h4
  by_cases hg : GrayOk a b c l
  · rw [if_pos hg] at *
    obtain ⟨hi, hc⟩ := hg
    obtain ⟨W, H, p, rfl, rfl, rfl, hlen, b1, b2, b3, b4, b5, b6⟩ := hi.nats
    obtain rfl : p = 1 := by omega
    obtain ⟨⟨L1, t1, g1, e1⟩, L2, t2, g2, e2⟩ := histTurn_yes W H l hi hlen b1 b2 b4 b5
    have q1 := impl_HistogramOf.ev (H : Int) (W : Int) ((1 : Nat) : Int) L1
    have q2 := impl_HistogramOf.ev (W : Int) (H : Int) ((1 : Nat) : Int) L2
    rw [if_pos g1, e1] at q1
    rw [if_pos g2, e2] at q2
    exact evFix t1 (evBind q1 (evBind heq (evPos rfl (evFix t2 (evBind q2 (evBind heq (evRet rfl)))))))
  · rw [if_neg hg] at *
    obtain ⟨x1, x2, x3, L1, t1, g1⟩ : ∃ x1 x2 x3 L, impl_TurnImage.f a b c l 1 = some (x1, x2, x3, L) ∧ ¬ GrayOk x1 x2 x3 L := by
      by_cases hk : TurnKOk a b c l 1
      · refine ⟨_, _, _, _, by unfold impl_TurnImage.f; rw [if_pos hk], fun h => hg ⟨hk.1, h.2⟩⟩
      · refine ⟨_, _, _, _, by unfold impl_TurnImage.f; rw [if_neg hk], fun h => by have := h.2; omega⟩
    obtain ⟨y1, y2, y3, L2, t2, g2⟩ : ∃ x1 x2 x3 L, impl_MirrorImage.f a b c l = some (x1, x2, x3, L) ∧ ¬ GrayOk x1 x2 x3 L := by
      by_cases hk : ImgOk a b c l
      · refine ⟨_, _, _, _, by unfold impl_MirrorImage.f; rw [if_pos hk], fun h => hg ⟨hk, h.2⟩⟩
      · refine ⟨_, _, _, _, by unfold impl_MirrorImage.f; rw [if_neg hk], fun h => by have := h.2; omega⟩
    have q1 := impl_HistogramOf.ev x1 x2 x3 L1
    have q2 := impl_HistogramOf.ev y1 y2 y3 L2
    rw [if_neg g1] at q1
    rw [if_neg g2] at q2
    exact evFix t1 (evBind q1 (evBind heq (evPos rfl (evFix t2 (evBind q2 (evBind heq (evRet rfl)))))))

end Go.Proofs.Ytonolnojpejgnaa.Pure
