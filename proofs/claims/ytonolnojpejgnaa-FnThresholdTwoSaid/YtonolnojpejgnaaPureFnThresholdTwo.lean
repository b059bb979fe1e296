/- FnThresholdTwo answers true for every code: the threshold of an image of two numbers is the smaller one plus 1. No condition. -/
import Derived.Test.YtonolnojpejgnaaPrintHimplPaletteOf
import Derived.Test.YtonolnojpejgnaaPrintHx0
import Derived.Test.YtonolnojpejgnaaPrintHx2
import Derived.Test.YtonolnojpejgnaaPrintLFnThresholdTwo
import Derived.Test.YtonolnojpejgnaaPrintR0x0
import Derived.Test.YtonolnojpejgnaaPrintR0x1
import Derived.Test.YtonolnojpejgnaaPrintR1x0
import Derived.Test.YtonolnojpejgnaaPrintR1x1
import Derived.Test.YtonolnojpejgnaaPrintR1x2
import Derived.Test.YtonolnojpejgnaaPrintR1x3
import Derived.Test.YtonolnojpejgnaaPrintR1x4
import Derived.Test.YtonolnojpejgnaaPrintR1x5
namespace Go.Proofs.Ytonolnojpejgnaa.Pure
open Go.RowKit Go.Proofs.Ytonolnojpejgnaa.Print Go.Proofs.YtonolnojpejgnaaW.PrintWords Go.Proofs.YtonolnojpejgnaaW.PrintLast Go.Proofs.YtonolnojpejgnaaW.PrintMore
set_option linter.unusedVariables false
set_option linter.unusedSimpArgs false
theorem rdN (l : List Int) (k : Nat) (h : k < l.length) : rd l (k : Int) = l[k] := by
  simp [rd, List.getD_eq_getElem?_getD, List.getElem?_eq_getElem h]
theorem drop_cons_ {α : Type} (l : List α) (k : Nat) (h : k < l.length) : l.drop k = l[k] :: l.drop (k + 1) := List.drop_eq_getElem_cons h
theorem take_snocN {α : Type} (l : List α) (k : Nat) (h : k < l.length) : l.take (k + 1) = l.take k ++ [l[k]] := by
  rw [List.take_succ_eq_append_getElem h]
/-- A code that a reader reads. -/
def CodeOk (b : List Int) : Prop := b.length ≤ 2000 ∧ ∀ x ∈ b, 0 ≤ x ∧ x ≤ 255
theorem code_rd (b : List Int) (h : CodeOk b) (i : Int) (h0 : 0 ≤ i) (h1 : i < b.length) : 0 ≤ rd b i ∧ rd b i ≤ 255 := by
  obtain ⟨n, rfl⟩ := Int.eq_ofNat_of_zero_le h0
  rw [rdN b n (by omega)]
  exact h.2 _ (List.getElem_mem _)
theorem xor_nonneg (a b : Int) (ha : 0 ≤ a) (ha1 : a < 4611686018427387904) (hb : 0 ≤ b) (hb1 : b < 4611686018427387904) : 0 ≤ Go.bits .xor .i64 a b := by
  obtain ⟨n, rfl⟩ := Int.eq_ofNat_of_zero_le ha
  obtain ⟨m, rfl⟩ := Int.eq_ofNat_of_zero_le hb
  have hx : n ^^^ m < 2 ^ 62 := Nat.xor_lt_two_pow (by omega) (by omega)
  have e : Go.bits .xor .i64 (n : Int) (m : Int) = ((n ^^^ m : Nat) : Int) := by
    have hp : (2 : Nat) ^ IntKind.i64.bits = 18446744073709551616 := by decide
    have ha' : n % 2 ^ IntKind.i64.bits = n := Nat.mod_eq_of_lt (by omega)
    have hb' : m % 2 ^ IntKind.i64.bits = m := Nat.mod_eq_of_lt (by omega)
    simp only [bits, BitVec.ofInt_natCast, BitVec.toNat_xor, BitVec.toNat_ofNat, ha', hb']
    rw [IntKind.wrap_i64]
    omega
  rw [e]
  omega
theorem spec_reader_pick.ev (b : List Int) (h : CodeOk b) (p n : Int) (hp0 : 0 ≤ p) (hp1 : p < 1000000000) (hn : n ≤ 1000000) : ∃ v, Ev (fun k => spec_reader_pick.f k b p n) (v, p + 1) ∧ 0 ≤ v ∧ (v < n ∨ v = 0) := by
  have hw : wrap64 (p + 1) = p + 1 := wrapIn (by omega) (by omega)
  have hw1 : wrap64 (p + 1 - 1) = p := by rw [wrapIn (by omega) (by omega)]; omega
  unfold spec_reader_pick.f
  rw [hw]
  by_cases hn1 : n < 1
  · refine ⟨0, evPos hn1 (Ev.step (fun k => by simp only [spec_reader_pick.j0]; rfl) (evPos (by trivial) (evRet rfl))), by omega, .inr rfl⟩
  by_cases hb : (b.length : Int) = 0
  · refine ⟨0, evNeg hn1 (Ev.step (fun k => by simp only [spec_reader_pick.j0]; rfl) (evPos (by simp [hb]) (evRet rfl))), by omega, .inr rfl⟩
  have hbf : ((b.length : Int) == 0) = false := by simpa using hb
  have hl := h.1
  by_cases hlt : p < (b.length : Int)
  · have hr := code_rd b h p hp0 hlt
    refine ⟨Int.tmod (wrap64 (rd b p)) n, evNeg hn1 (Ev.step (fun k => by simp only [spec_reader_pick.j0, hbf, hw1]; rfl) (evNeg (by simp) (evPos hlt (evPos hp0 (evNeg (by omega) (evRet rfl)))))), ?_, .inl ?_⟩
    · exact Int.tmod_nonneg _ (by rw [wrapIn (by omega) (by omega)]; omega)
    · exact Int.tmod_lt_of_pos _ (by omega)
  · have hm0 : 0 ≤ Int.tmod p (b.length : Int) := Int.tmod_nonneg _ hp0
    have hm1 : Int.tmod p (b.length : Int) < b.length := Int.tmod_lt_of_pos _ (by omega)
    have hq : wrap64 (wrap64 (p * 7) + 3) = p * 7 + 3 := by rw [wrapIn (x := p * 7) (by omega) (by omega), wrapIn (by omega) (by omega)]
    have hk0 : 0 ≤ Int.tmod (p * 7 + 3) (b.length : Int) := Int.tmod_nonneg _ (by omega)
    have hk1 : Int.tmod (p * 7 + 3) (b.length : Int) < b.length := Int.tmod_lt_of_pos _ (by omega)
    have r1 := code_rd b h _ hm0 hm1
    have r2 := code_rd b h _ hk0 hk1
    have hd0 : 0 ≤ Int.tdiv p (b.length : Int) := Int.tdiv_nonneg hp0 (by omega)
    have hd1 : Int.tdiv p (b.length : Int) ≤ p := by
      have := Int.natAbs_tdiv_le_natAbs p (b.length : Int)
      omega
    refine ⟨_, evNeg hn1 (Ev.step (fun k => by simp only [spec_reader_pick.j0, hbf, hw1, hq]; rfl) (evNeg (by simp) (evNeg hlt (evNeg hb (evPos hm0 (evPos hm1 (evPos hk0 (evPos hk1 (evNeg (by omega) (evRet rfl)))))))))), ?_, .inl (Int.tmod_lt_of_pos _ (by omega))⟩
    generalize rd b (Int.tmod p (b.length : Int)) = u at *
    generalize rd b (Int.tmod (p * 7 + 3) (b.length : Int)) = t at *
    generalize Int.tdiv p (b.length : Int) = q at *
    rw [wrapIn (x := u) (by omega) (by omega), wrapIn (x := t) (by omega) (by omega), wrapIn (x := q) (by omega) (by omega), wrapIn (x := u * 131) (by omega) (by omega), wrapIn (x := t * 1117) (by omega) (by omega), wrapIn (x := u * 131 + t * 1117) (by omega) (by omega), wrapIn (x := p * 29) (by omega) (by omega), wrapIn (x := u * 131 + t * 1117 + p * 29) (by omega) (by omega), wrapIn (x := q * 53) (by omega) (by omega), wrapIn (x := u * 131 + t * 1117 + p * 29 + q * 53) (by omega) (by omega)]
    generalize hX : u * 131 + t * 1117 + p * 29 + q * 53 = X
    have hX0 : 0 ≤ X := by omega
    have hX1 : X < 4611686018427387904 := by omega
    have hT0 : 0 ≤ Int.tdiv X 64 := Int.tdiv_nonneg hX0 (by omega)
    have hT1 : Int.tdiv X 64 ≤ X := by
      have := Int.natAbs_tdiv_le_natAbs X 64
      omega
    rw [wrapIn (x := Int.tdiv X 64) (by omega) (by omega)]
    exact Int.tmod_nonneg _ (xor_nonneg _ _ hX0 hX1 hT0 (by omega))
theorem spec_newReader.ev (l : List Int) (hw : ∀ x ∈ l, (Lit.int .u8 x).wf = true) : ∃ b, spec_newReader.f l = some (b, 0) ∧ CodeOk b := by
  have hx : ∀ x ∈ l, 0 ≤ x ∧ x ≤ 255 := fun x hx => by
    have := hw x hx
    have hmin : IntKind.u8.min = 0 := rfl
    have hmax : IntKind.u8.max = 255 := rfl
    simp only [Lit.wf, Bool.and_eq_true, decide_eq_true_eq] at this
    omega
  unfold spec_newReader.f
  by_cases h : (l.length : Int) > 2000
  · rw [if_pos h, if_pos (by omega)]
    exact ⟨_, rfl, by simp; omega, fun x h2 => hx x (List.mem_of_mem_take h2)⟩
  · rw [if_neg h]
    exact ⟨_, rfl, by omega, hx⟩

theorem spec_reader_one.ev (b : List Int) (h : CodeOk b) (p : Int) (hp0 : 0 ≤ p) (hp1 : p < 1000000000) (l : List Int) (hl0 : 0 < l.length) (hl1 : l.length ≤ 1000) : ∃ v, Ev (fun k => spec_reader_one.f k b p l) (v, p + 1) ∧ v ∈ l := by
  obtain ⟨v, hv, h0, h1⟩ := spec_reader_pick.ev b h p (l.length : Int) hp0 hp1 (by omega)
  have hlt : v < l.length := by omega
  refine ⟨rd l v, ?_, ?_⟩
  · unfold spec_reader_one.f
    exact evBind hv (evPos h0 (evPos hlt (evRet rfl)))
  · obtain ⟨n, rfl⟩ := Int.eq_ofNat_of_zero_le h0
    rw [rdN l n (by omega)]
    exact List.getElem_mem _

def Bytes (l : List Int) : Prop := ∀ x ∈ l, 0 ≤ x ∧ x ≤ 255
theorem Bytes.set {l : List Int} (h : Bytes l) (i : Nat) (v : Int) (h0 : 0 ≤ v) (h1 : v ≤ 255) : Bytes (l.set i v) := by
  intro x hx
  rcases List.mem_or_eq_of_mem_set hx with hx | rfl
  · exact h x hx
  · exact ⟨h0, h1⟩
theorem spec_newImage.val (a b c : Int) (ha : 1 ≤ a ∧ a ≤ 16) (hb : 1 ≤ b ∧ b ≤ 16) (hc : 1 ≤ c ∧ c ≤ 4) : spec_newImage.f a b c = some (a, b, c, List.replicate (a * b * c).toNat 0) := by
  obtain ⟨h1, h2, h3, h4⟩ := shape_prod ha hb hc
  unfold spec_newImage.f
  rw [shape_wrap ha hb hc, if_pos (by omega), if_pos (by omega)]
theorem spec_randomImage.ev_l0 (b : List Int) (h : CodeOk b) (kind W H n : Int) (N : Nat) (hN : N ≤ 100000) (d : Nat) : ∀ (i : Nat) (at_ p : Int) (l : List Int), l.length = N → i ≤ N → N - i = d → 0 ≤ at_ → at_ ≤ 255 → Bytes l → 0 ≤ p → p + d < 1000000000 →
    ∃ l' q, Ev (fun k => spec_randomImage.l0 k kind at_ (i : Int) b p W H n l) (W, H, n, l', q) ∧ l'.length = N ∧ Bytes l' ∧ p ≤ q ∧ q ≤ p + d := by
  induction d with
  | zero =>
    intro i at_ p l hl hi hd _ _ hb hp _
    exact ⟨l, p, Ev.step (fun k => by simp only [spec_randomImage.l0]; rfl) (evNeg (by omega) (evRet rfl)), hl, hb, by omega, by omega⟩
  | succ d ih =>
    intro i at_ p l hl hi hd h0 h1 hb hp hpd
    have hlt : (i : Int) < (l.length : Int) := by omega
    by_cases k0 : kind = 0
    · obtain ⟨v, hv, v0, v1⟩ := spec_reader_pick.ev b h p 256 hp (by omega) (by omega)
      obtain ⟨l', q, he, e1, e2, e3, e4⟩ := ih (i + 1) v (p + 1) (l.set (i : Int).toNat v) (by simpa using hl) (by omega) (by omega) v0 (by omega) (hb.set _ v v0 (by omega)) (by omega) (by omega)
      refine ⟨l', q, Ev.step (fun k => by simp only [spec_randomImage.l0, wrapSucc i (by omega)]; rfl) (evPos hlt (evPos k0 (evBind hv ?_))), e1, e2, by omega, by omega⟩
      exact evPos (show (0 : Int) ≤ (i : Int) by omega) he
    by_cases k1 : kind = 1
    · obtain ⟨v, hv, v0, v1⟩ := spec_reader_pick.ev b h p 5 hp (by omega) (by omega)
      have hw : wrap64 (wrap64 (at_ + v) + 254) = at_ + v + 254 := by rw [wrapIn (x := at_ + v) (by omega) (by omega), wrapIn (by omega) (by omega)]
      have t0 := Int.tmod_nonneg 256 (show 0 ≤ at_ + v + 254 by omega)
      have t1 := Int.tmod_lt_of_pos (at_ + v + 254) (show (0 : Int) < 256 by omega)
      obtain ⟨l', q, he, e1, e2, e3, e4⟩ := ih (i + 1) (Int.tmod (at_ + v + 254) 256) (p + 1) (l.set (i : Int).toNat (Int.tmod (at_ + v + 254) 256)) (by simpa using hl) (by omega) (by omega) t0 (by omega) (hb.set _ _ t0 (by omega)) (by omega) (by omega)
      refine ⟨l', q, Ev.step (fun k => by simp only [spec_randomImage.l0, wrapSucc i (by omega)]; rfl) (evPos hlt (evNeg k0 (evPos k1 (evBind hv ?_)))), e1, e2, by omega, by omega⟩
      simp only [hw]
      exact evPos (show (0 : Int) ≤ (i : Int) by omega) he
    by_cases k2 : kind = 2
    · obtain ⟨v, hv, v0, v1⟩ := spec_reader_pick.ev b h p 4 hp (by omega) (by omega)
      have hw : wrap64 (60 * v) = 60 * v := wrapIn (by omega) (by omega)
      obtain ⟨l', q, he, e1, e2, e3, e4⟩ := ih (i + 1) (60 * v) (p + 1) (l.set (i : Int).toNat (60 * v)) (by simpa using hl) (by omega) (by omega) (by omega) (by omega) (hb.set _ _ (by omega) (by omega)) (by omega) (by omega)
      refine ⟨l', q, Ev.step (fun k => by simp only [spec_randomImage.l0, wrapSucc i (by omega)]; rfl) (evPos hlt (evNeg k0 (evNeg k1 (evPos k2 (evBind hv ?_))))), e1, e2, by omega, by omega⟩
      simp only [hw]
      exact evPos (show (0 : Int) ≤ (i : Int) by omega) he
    · obtain ⟨l', q, he, e1, e2, e3, e4⟩ := ih (i + 1) at_ p (l.set (i : Int).toNat at_) (by simpa using hl) (by omega) (by omega) h0 h1 (hb.set _ _ h0 h1) (by omega) (by omega)
      exact ⟨l', q, Ev.step (fun k => by simp only [spec_randomImage.l0, wrapSucc i (by omega)]; rfl) (evPos hlt (evNeg k0 (evNeg k1 (evNeg k2 (evPos (by omega) he))))), e1, e2, by omega, by omega⟩
theorem spec_randomImage.ev (b : List Int) (h : CodeOk b) (p : Int) (hp0 : 0 ≤ p) (hp1 : p < 900000000) (n : Int) (hn : 1 ≤ n ∧ n ≤ 4) :
    ∃ W H l q, Ev (fun k => spec_randomImage.f k b p n) (W, H, n, l, q) ∧ ImgOk W H n l ∧ W ≤ 8 ∧ H ≤ 8 ∧ p ≤ q ∧ q ≤ p + 2000 := by
  obtain ⟨W, hW, mW⟩ := spec_reader_one.ev b h p hp0 (by omega) [3, 4, 2, 5, 1, 8, 6] (by simp) (by simp)
  obtain ⟨H, hH, mH⟩ := spec_reader_one.ev b h (p + 1) (by omega) (by omega) [3, 2, 4, 1, 5, 8] (by simp) (by simp)
  obtain ⟨kd, hk, k0, k1⟩ := spec_reader_pick.ev b h (p + 1 + 1) 4 (by omega) (by omega) (by omega)
  obtain ⟨at_, ha, a0, a1⟩ := spec_reader_pick.ev b h (p + 1 + 1 + 1) 256 (by omega) (by omega) (by omega)
  have bW : 1 ≤ W ∧ W ≤ 8 := by
    simp only [List.mem_cons, List.mem_nil_iff, or_false] at mW
    omega
  have bH : 1 ≤ H ∧ H ≤ 8 := by
    simp only [List.mem_cons, List.mem_nil_iff, or_false] at mH
    omega
  have hI := spec_newImage.val W H n ⟨bW.1, by omega⟩ ⟨bH.1, by omega⟩ hn
  obtain ⟨_, _, h3, h4⟩ := shape_prod (a := W) (b := H) (c := n) ⟨bW.1, by omega⟩ ⟨bH.1, by omega⟩ hn
  obtain ⟨l', q, he, e1, e2, e3, e4⟩ := spec_randomImage.ev_l0 b h kd W H n (W * H * n).toNat (by omega) (W * H * n).toNat 0 at_ (p + 1 + 1 + 1 + 1) (List.replicate (W * H * n).toNat 0) (by simp) (by omega) (by omega) a0 (by omega)
    (fun x hx => by rw [List.mem_replicate] at hx; omega) (by omega) (by omega)
  refine ⟨W, H, l', q, ?_, ⟨⟨bW.1, by omega⟩, ⟨bH.1, by omega⟩, hn, by omega, e2⟩, bW.2, bH.2, by omega, by omega⟩
  unfold spec_randomImage.f
  exact evBind hW (evBind hH (evFix hI (evBind hk (evBind ha he))))
theorem spec_spoilImage.ev (b : List Int) (h : CodeOk b) (p : Int) (hp0 : 0 ≤ p) (hp1 : p < 900000000) (W H n : Int) (l : List Int) (hl : 0 < l.length) :
    ∃ W' H' n' l' q, Ev (fun k => spec_spoilImage.f k b p W H n l) (W', H', n', l', q) ∧ l'.length ≤ l.length ∧ p ≤ q ∧ q ≤ p + 2 := by
  obtain ⟨v, hv, v0, v1⟩ := spec_reader_pick.ev b h p 40 hp0 (by omega) (by omega)
  unfold spec_spoilImage.f
  by_cases e0 : v = 0
  · obtain ⟨u, hu, _⟩ := spec_reader_one.ev b h (p + 1) (by omega) (by omega) [0, 17, wrap64 (W + 1)] (by simp) (by simp)
    exact ⟨u, H, n, l, p + 1 + 1, evBind hv (evPos e0 (evBind hu (evRet rfl))), by omega, by omega, by omega⟩
  by_cases e1 : v = 1
  · exact ⟨W, H, n, l.drop (1 : Int).toNat, p + 1, evBind hv (evNeg e0 (evPos e1 (evPos (by omega) (evRet rfl)))), by simp, by omega, by omega⟩
  by_cases e2 : v = 2
  · obtain ⟨u, hu, _⟩ := spec_reader_one.ev b h (p + 1) (by omega) (by omega) [-1, 256] (by simp) (by simp)
    exact ⟨W, H, n, l.set (0 : Int).toNat u, p + 1 + 1, evBind hv (evNeg e0 (evNeg e1 (evPos e2 (evBind hu (evPos (by omega) (evRet rfl)))))), by simp, by omega, by omega⟩
  by_cases e3 : v = 3
  · obtain ⟨u, hu, _⟩ := spec_reader_one.ev b h (p + 1) (by omega) (by omega) [0, 5] (by simp) (by simp)
    exact ⟨W, H, u, l, p + 1 + 1, evBind hv (evNeg e0 (evNeg e1 (evNeg e2 (evPos e3 (evBind hu (evRet rfl)))))), by omega, by omega, by omega⟩
  · exact ⟨W, H, n, l, p + 1, evBind hv (evNeg e0 (evNeg e1 (evNeg e2 (evNeg e3 (evRet rfl))))), by omega, by omega, by omega⟩
theorem spec_anyPlanes.ev (b : List Int) (h : CodeOk b) (p : Int) (hp0 : 0 ≤ p) (hp1 : p < 900000000) : ∃ n, Ev (fun k => spec_anyPlanes.f k b p) (n, p + 1) ∧ 1 ≤ n ∧ n ≤ 4 := by
  obtain ⟨u, hu, mu⟩ := spec_reader_one.ev b h p hp0 (by omega) [1, 3, 1, 4, 2] (by simp) (by simp)
  refine ⟨u, ?_, ?_⟩
  · unfold spec_anyPlanes.f
    exact evBind hu (evRet rfl)
  · simp only [List.mem_cons, List.mem_nil_iff, or_false] at mu
    omega
theorem spec_anyImage.ev (b : List Int) (h : CodeOk b) (p : Int) (hp0 : 0 ≤ p) (hp1 : p < 800000000) : ∃ W H n l q, Ev (fun k => spec_anyImage.f k b p) (W, H, n, l, q) ∧ l.length ≤ 1024 ∧ p ≤ q ∧ q ≤ p + 3000 := by
  obtain ⟨n, hn, n0, n1⟩ := spec_anyPlanes.ev b h p hp0 (by omega)
  obtain ⟨W, H, l, q, hr, ok, _, _, q0, q1⟩ := spec_randomImage.ev b h (p + 1) (by omega) (by omega) n ⟨n0, n1⟩
  obtain ⟨W', H', n', l', q', hs, e1, e2, e3⟩ := spec_spoilImage.ev b h q (by omega) (by omega) W H n l ok.len.1
  refine ⟨W', H', n', l', q', ?_, by have := ok.len.2; omega, by omega, by omega⟩
  unfold spec_anyImage.f
  exact evBind hn (evBind hr (evBind hs (evRet rfl)))

theorem spec_grayImage.ev (b : List Int) (h : CodeOk b) (p : Int) (hp0 : 0 ≤ p) (hp1 : p < 700000000) : ∃ W H n l q, Ev (fun k => spec_grayImage.f k b p) (W, H, n, l, q) ∧ l.length ≤ 1024 := by
  obtain ⟨v, hv, v0, v1⟩ := spec_reader_pick.ev b h p 20 hp0 (by omega) (by omega)
  unfold spec_grayImage.f
  by_cases e0 : v = 0
  · obtain ⟨W, H, n, l, q, he, h1, _, _⟩ := spec_anyImage.ev b h (p + 1) (by omega) (by omega)
    exact ⟨W, H, n, l, q, evBind hv (evPos e0 (evBind he (evRet rfl))), h1⟩
  · obtain ⟨W, H, l, q, hr, ok, _, _, q0, q1⟩ := spec_randomImage.ev b h (p + 1) (by omega) (by omega) 1 (by omega)
    obtain ⟨W', H', n', l', q', hs, e1, e2, e3⟩ := spec_spoilImage.ev b h q (by omega) (by omega) W H 1 l ok.len.1
    exact ⟨W', H', n', l', q', evBind hv (evNeg e0 (evBind hr (evBind hs (evRet rfl)))), by have := ok.len.2; omega⟩

theorem spec_DrawThresholdOf.ev (l : List Int) (hw : ∀ x ∈ l, (Lit.int .u8 x).wf = true) : ∃ W H n r, Ev (fun k => spec_DrawThresholdOf.f k l) (W, H, n, r) ∧ r.length ≤ 1024 := by
  obtain ⟨b, hb, hc⟩ := spec_newReader.ev l hw
  obtain ⟨W, H, n, r, q, he, h1⟩ := spec_grayImage.ev b hc 0 (by omega) (by omega)
  refine ⟨W, H, n, r, ?_, h1⟩
  unfold spec_DrawThresholdOf.f
  exact evFix hb (evBind he (evRet rfl))
theorem inRange_val (a lo hi : Int) : spec_inRange.f a lo hi = some (decide (lo ≤ a ∧ a ≤ hi)) := by
  unfold spec_inRange.f
  split
  · rename_i h; simp [h]
  · rename_i h; simp [h]

/-- All numbers of a list lie in a range. -/
def allB (lo hi : Int) (l : List Int) : Bool := l.all fun x => decide (lo ≤ x ∧ x ≤ hi)
theorem allB_iff (lo hi : Int) (l : List Int) : allB lo hi l = true ↔ ∀ x ∈ l, lo ≤ x ∧ x ≤ hi := by
  unfold allB
  rw [List.all_eq_true]
  simp only [decide_eq_true_eq]
theorem spec_allIn.ev_l0 (l : List Int) (lo hi : Int) (hl : l.length ≤ 9223372036854775806) (d : Nat) : ∀ i, i ≤ l.length → l.length - i = d →
    Ev (fun k => spec_allIn.l0 k l lo hi (i : Int)) (allB lo hi (l.drop i)) := by
  induction d with
  | zero =>
    intro i hi' hd
    refine Ev.step (fun k => by simp only [spec_allIn.l0]; rfl) (evNeg (by omega) (evRet ?_))
    rw [List.drop_of_length_le (by omega)]
    rfl
  | succ d ih =>
    intro i hi' hd
    have hw : wrap64 ((i : Int) + 1) = ((i + 1 : Nat) : Int) := wrapSucc i (by omega)
    refine Ev.step (fun k => by simp only [spec_allIn.l0, hw]; rfl) (evPos (by omega) (evPos (by omega) ?_))
    rw [rdN l i (by omega), drop_cons_ l i (by omega)]
    have hr : spec_inRange.f l[i] lo hi = some (decide (lo ≤ l[i] ∧ l[i] ≤ hi)) := by
      unfold spec_inRange.f
      split
      · rename_i h; simp [h]
      · rename_i h; simp [h]
    have e : allB lo hi (l[i] :: l.drop (i + 1)) = (decide (lo ≤ l[i] ∧ l[i] ≤ hi) && allB lo hi (l.drop (i + 1))) := by
      unfold allB
      rw [List.all_cons]
    rw [e]
    refine evFix hr (evIf (fun h => ?_) (fun h => evRet ?_))
    · rw [h, Bool.true_and]
      exact ih (i + 1) (by omega) (by omega)
    · rw [Bool.eq_false_iff.mpr h, Bool.false_and]
theorem spec_allIn.ev (l : List Int) (lo hi : Int) (hl : l.length ≤ 9223372036854775806) : Ev (fun k => spec_allIn.f k l lo hi) (allB lo hi l) := by
  have := spec_allIn.ev_l0 l lo hi hl l.length 0 (by omega) (by omega)
  unfold spec_allIn.f
  simpa using this

theorem spec_validShape.val (a b c : Int) : spec_validShape.f a b c = some (decide ((1 ≤ a ∧ a ≤ 16) ∧ (1 ≤ b ∧ b ≤ 16) ∧ (1 ≤ c ∧ c ≤ 4))) := by
  unfold spec_validShape.f
  rw [inRange_val, inRange_val, inRange_val]
  simp only [Option.bind_some, decide_eq_true_eq]
  by_cases h1 : 1 ≤ a ∧ a ≤ 16
  · rw [if_pos h1]
    by_cases h2 : 1 ≤ b ∧ b ≤ 16
    · rw [if_pos h2]
      congr 1
      rw [Bool.eq_iff_iff]
      simp only [decide_eq_true_eq]
      exact ⟨fun h => ⟨h1, h2, h⟩, fun h => h.2.2⟩
    · rw [if_neg h2, decide_eq_false (fun h => h2 h.2.1)]
  · rw [if_neg h1, decide_eq_false (fun h => h1 h.1)]
theorem allB_bytes (l : List Int) : allB 0 255 l = decide (∀ x ∈ l, 0 ≤ x ∧ x ≤ 255) := by
  rw [Bool.eq_iff_iff, allB_iff, decide_eq_true_eq]
theorem spec_validImage.ev (a b c : Int) (l : List Int) (hl : l.length ≤ 9223372036854775806) : Ev (fun k => spec_validImage.f k a b c l) (decide (ImgOk a b c l)) := by
  unfold spec_validImage.f
  refine evFix (spec_validShape.val a b c) ?_
  by_cases h : (1 ≤ a ∧ a ≤ 16) ∧ (1 ≤ b ∧ b ≤ 16) ∧ (1 ≤ c ∧ c ≤ 4)
  · refine evPos (decide_eq_true h) ?_
    rw [shape_wrap h.1 h.2.1 h.2.2]
    by_cases h2 : (l.length : Int) = a * b * c
    · refine evPos h2 ?_
      have h3 := spec_allIn.ev l 0 255 hl
      refine evBind h3 (evRet ?_)
      rw [allB_bytes, Bool.eq_iff_iff]
      simp only [decide_eq_true_eq]
      exact ⟨fun h3 => ⟨h.1, h.2.1, h.2.2, h2, h3⟩, fun hh => hh.2.2.2.2⟩
    · exact evNeg h2 (evRet (decide_eq_false (fun hh : ImgOk a b c l => h2 hh.2.2.2.1)).symm)
  · exact evNeg (by rw [decide_eq_false h]; simp) (evRet (decide_eq_false (fun hh : ImgOk a b c l => h ⟨hh.1, hh.2.1, hh.2.2.1⟩)).symm)

/-- How often each number of 0..255 stands in a list. -/
def histL (l : List Int) : List Int := (List.range 256).map fun (n : Nat) => ((l.count (n : Int) : Nat) : Int)
theorem histL_length (l : List Int) : (histL l).length = 256 := by simp [histL]
theorem histL_get (l : List Int) (n : Nat) (h : n < (histL l).length) : (histL l)[n] = ((l.count (n : Int) : Nat) : Int) := by simp [histL]
theorem histL_rd (l : List Int) (n : Nat) (h : n < 256) : rd (histL l) (n : Int) = ((l.count (n : Int) : Nat) : Int) := by
  rw [rdN _ n (by rw [histL_length]; exact h), histL_get]
theorem histL_nil : histL [] = List.replicate 256 0 := by
  apply List.ext_getElem
  · rw [histL_length, List.length_replicate]
  · intro j h1 h2
    rw [histL_get, List.getElem_replicate]
    rfl
theorem histL_snoc (l : List Int) (x : Int) (h0 : 0 ≤ x) (h1 : x ≤ 255) : (histL l).set x.toNat (rd (histL l) x + 1) = histL (l ++ [x]) := by
  obtain ⟨m, rfl⟩ := Int.eq_ofNat_of_zero_le h0
  rw [Int.toNat_natCast, histL_rd l m (by omega)]
  apply List.ext_getElem
  · rw [List.length_set, histL_length, histL_length]
  · intro j h2 h3
    rw [List.length_set, histL_length] at h2
    rw [List.getElem_set, histL_get, histL_get, List.count_append]
    by_cases e : m = j
    · subst e
      rw [if_pos rfl, List.count_singleton_self]
      omega
    · rw [if_neg e, List.count_singleton, if_neg (by simp; omega)]
      omega
theorem hist_wrap (l : List Int) (x : Int) (h0 : 0 ≤ x) (h1 : x ≤ 255) (hl : l.length ≤ 1000000) : wrap64 (rd (histL l) x + 1) = rd (histL l) x + 1 := by
  obtain ⟨m, rfl⟩ := Int.eq_ofNat_of_zero_le h0
  have hc := List.count_le_length (l := l) (a := (m : Int))
  rw [histL_rd l m (by omega)]
  exact wrapIn (by omega) (by omega)
theorem spec_histogram.ev_l0 (l : List Int) (hb : ∀ x ∈ l, 0 ≤ x ∧ x ≤ 255) (hl : l.length ≤ 1000000) (d : Nat) : ∀ i, i ≤ l.length → l.length - i = d →
    Ev (fun k => spec_histogram.l0 k l (histL (l.take i)) (i : Int)) (histL l) := by
  induction d with
  | zero =>
    intro i hi hd
    refine Ev.step (fun k => by simp only [spec_histogram.l0]; rfl) (evNeg (by omega) (evRet ?_))
    rw [List.take_of_length_le (by omega)]
  | succ d ih =>
    intro i hi hd
    have hlt : i < l.length := by omega
    have h1 := hb l[i] (List.getElem_mem hlt)
    have hs := histL_snoc (l.take i) l[i] h1.1 h1.2
    rw [← take_snocN l i hlt] at hs
    have hw := hist_wrap (l.take i) l[i] h1.1 h1.2 (by rw [List.length_take]; omega)
    refine Ev.step (fun k => by simp only [spec_histogram.l0, rdN l i hlt, wrapSucc i (by omega), hw, hs]; rfl) ?_
    refine evPos (by omega) (evPos (by omega) (evPos h1.1 (evPos (by rw [histL_length]; omega) ?_)))
    exact ih (i + 1) (by omega) (by omega)
theorem spec_histogram.ev (l : List Int) (hb : ∀ x ∈ l, 0 ≤ x ∧ x ≤ 255) (hl : l.length ≤ 1000000) : Ev (fun k => spec_histogram.f k l) (histL l) := by
  have h := spec_histogram.ev_l0 l hb hl l.length 0 (by omega) (by omega)
  unfold spec_histogram.f
  refine evPos (by omega) ?_
  rw [← histL_nil]
  exact h
theorem impl_histogram.ev_l0 (l : List Int) (hb : ∀ x ∈ l, 0 ≤ x ∧ x ≤ 255) (hl : l.length ≤ 1000000) (d : Nat) : ∀ i, i ≤ l.length → l.length - i = d →
    Ev (fun k => impl_histogram.l0 k (histL (l.take i)) l (l.length : Int) (i : Int)) (histL l) := by
  induction d with
  | zero =>
    intro i hi hd
    refine Ev.step (fun k => by simp only [impl_histogram.l0]; rfl) (evNeg (by omega) (evRet ?_))
    rw [List.take_of_length_le (by omega)]
  | succ d ih =>
    intro i hi hd
    have hlt : i < l.length := by omega
    have h1 := hb l[i] (List.getElem_mem hlt)
    have hs := histL_snoc (l.take i) l[i] h1.1 h1.2
    rw [← take_snocN l i hlt] at hs
    have hw := hist_wrap (l.take i) l[i] h1.1 h1.2 (by rw [List.length_take]; omega)
    refine Ev.step (fun k => by simp only [impl_histogram.l0, rdN l i hlt, wrapSucc i (by omega), hw, hs]; rfl) ?_
    refine evPos (by omega) (evPos (by omega) (evPos (by omega) (evPos h1.1 (evPos (by rw [histL_length]; omega) ?_))))
    exact ih (i + 1) (by omega) (by omega)
theorem impl_histogram.ev (a b c : Int) (l : List Int) (hb : ∀ x ∈ l, 0 ≤ x ∧ x ≤ 255) (hl : l.length ≤ 1000000) : Ev (fun k => impl_histogram.f k a b c l) (histL l) := by
  have h := impl_histogram.ev_l0 l hb hl l.length 0 (by omega) (by omega)
  unfold impl_histogram.f
  refine evPos (by omega) ?_
  rw [← histL_nil]
  exact h
/-- An image with one plane. -/
def GrayOk (a b c : Int) (l : List Int) : Prop := ImgOk a b c l ∧ c = 1
instance (a b c : Int) (l : List Int) : Decidable (GrayOk a b c l) := by unfold GrayOk; exact inferInstance
theorem palN_next (f : Nat → Nat → List Int) (W n : Nat) : palN f W (n + 1) = palAdd (palN f W n) (f (n % W) (n / W)) := by
  unfold palN
  rw [List.range_succ, List.foldl_append, List.foldl_cons, List.foldl_nil]
theorem palAdd_mem (acc : List (List Int)) (px c : List Int) : c ∈ palAdd acc px ↔ c ∈ acc ∨ c = px := by
  unfold palAdd
  split
  · rename_i h
    rw [List.any_eq_true] at h
    obtain ⟨z, hz, hd⟩ := h
    have := of_decide_eq_true hd
    subst this
    constructor
    · exact Or.inl
    · rintro (h | rfl)
      · exact h
      · exact hz
  · rw [List.mem_append, List.mem_singleton]
theorem palAdd_nodup (acc : List (List Int)) (px : List Int) (h : acc.Nodup) : (palAdd acc px).Nodup := by
  unfold palAdd
  split
  · exact h
  · rename_i hn
    rw [List.nodup_append]
    refine ⟨h, by simp, fun a ha b hb => ?_⟩
    rw [List.mem_singleton] at hb
    subst hb
    rintro rfl
    exact hn (List.any_eq_true.2 ⟨a, ha, decide_eq_true rfl⟩)
theorem palN_mem (f : Nat → Nat → List Int) (W n : Nat) (c : List Int) : c ∈ palN f W n ↔ ∃ i, i < n ∧ f (i % W) (i / W) = c := by
  induction n with
  | zero =>
    constructor
    · intro h
      cases h
    · rintro ⟨i, hi, _⟩
      omega
  | succ n ih =>
    rw [palN_next, palAdd_mem, ih]
    constructor
    · rintro (⟨i, hi, h⟩ | h)
      · exact ⟨i, by omega, h⟩
      · exact ⟨n, by omega, h.symm⟩
    · rintro ⟨i, hi, h⟩
      by_cases e : i = n
      · subst e
        exact Or.inr h.symm
      · exact Or.inl ⟨i, by omega, h⟩
theorem palN_nodup (f : Nat → Nat → List Int) (W n : Nat) : (palN f W n).Nodup := by
  induction n with
  | zero => exact List.nodup_nil
  | succ n ih =>
    rw [palN_next]
    exact palAdd_nodup _ _ ih
theorem pix_gray (W : Nat) (l : List Int) (i : Nat) (hi : i < l.length) : pixN W 1 l (i % W) (i / W) = [l[i]] := by
  unfold pixN
  have e : (i / W * W + i % W) * 1 = i := by
    have := Nat.div_add_mod i W
    rw [Nat.mul_comm] at this
    omega
  rw [e, List.drop_take, List.drop_eq_getElem_cons hi, show i + 1 - i = 1 by omega]
  rfl
/-- Two colors of a gray image: two different numbers, and there are no others. -/
theorem pal_two (W : Nat) (l : List Int) (h : (palN (pixN W 1 l) W l.length).length = 2) : ∃ u v, palN (pixN W 1 l) W l.length = [[u], [v]] ∧ u ≠ v ∧ u ∈ l ∧ v ∈ l ∧ ∀ x ∈ l, x = u ∨ x = v := by
  have hm := palN_mem (pixN W 1 l) W l.length
  have hd := palN_nodup (pixN W 1 l) W l.length
  generalize palN (pixN W 1 l) W l.length = P at *
  match P, h with
  | [p, q], _ =>
    obtain ⟨i, hi, e1⟩ := (hm p).1 (by simp)
    obtain ⟨j, hj, e2⟩ := (hm q).1 (by simp)
    rw [pix_gray W l i hi] at e1
    rw [pix_gray W l j hj] at e2
    subst e1 e2
    refine ⟨l[i], l[j], rfl, ?_, List.getElem_mem hi, List.getElem_mem hj, fun x hx => ?_⟩
    · intro e
      rw [e] at hd
      simp at hd
    · obtain ⟨k, hk, rfl⟩ := List.getElem_of_mem hx
      have h2 := (hm [l[k]]).2 ⟨k, hk, pix_gray W l k hk⟩
      simp only [List.mem_cons, List.mem_nil_iff, or_false, List.cons.injEq, and_true] at h2
      exact h2

def tA (l : List Int) (t : Nat) : Nat := (l.filter fun x => decide (x < (t : Int))).length
def tX (l : List Int) (t : Nat) : Int := (l.filter fun x => decide (x < (t : Int))).sum
theorem tA_zero (l : List Int) (hb : ∀ x ∈ l, 0 ≤ x ∧ x ≤ 255) : tA l 0 = 0 := by
  unfold tA
  rw [List.filter_eq_nil_iff.2 fun x hx => by have := hb x hx; simp; omega]
  rfl
theorem tX_zero (l : List Int) (hb : ∀ x ∈ l, 0 ≤ x ∧ x ≤ 255) : tX l 0 = 0 := by
  unfold tX
  rw [List.filter_eq_nil_iff.2 fun x hx => by have := hb x hx; simp; omega]
  rfl
theorem tA_all (l : List Int) (hb : ∀ x ∈ l, 0 ≤ x ∧ x ≤ 255) : tA l 256 = l.length := by
  unfold tA
  rw [List.filter_eq_self.2 fun x hx => by have := hb x hx; simp; omega]
theorem tX_all (l : List Int) (hb : ∀ x ∈ l, 0 ≤ x ∧ x ≤ 255) : tX l 256 = l.sum := by
  unfold tX
  rw [List.filter_eq_self.2 fun x hx => by have := hb x hx; simp; omega]
theorem tA_step (l : List Int) (t : Nat) : tA l (t + 1) = tA l t + l.count (t : Int) := by
  unfold tA
  induction l with
  | nil => rfl
  | cons x r ih =>
    rw [List.filter_cons, List.filter_cons]
    by_cases h1 : x < (t : Int)
    · rw [if_pos (decide_eq_true (show x < ((t + 1 : Nat) : Int) by omega)), if_pos (decide_eq_true h1), List.length_cons, List.length_cons, ih, List.count_cons_of_ne (by omega)]
      omega
    · by_cases h2 : x = (t : Int)
      · subst h2
        rw [if_pos (decide_eq_true (by omega)), if_neg (by simp), List.length_cons, ih, List.count_cons_self]
        omega
      · rw [if_neg (by simp; omega), if_neg (by simp; omega), ih, List.count_cons_of_ne (by omega)]
theorem tX_step (l : List Int) (t : Nat) : tX l (t + 1) = tX l t + (t : Int) * ((l.count (t : Int) : Nat) : Int) := by
  unfold tX
  induction l with
  | nil => simp
  | cons x r ih =>
    rw [List.filter_cons, List.filter_cons]
    by_cases h1 : x < (t : Int)
    · rw [if_pos (decide_eq_true (show x < ((t + 1 : Nat) : Int) by omega)), if_pos (decide_eq_true h1), List.sum_cons, List.sum_cons, ih, List.count_cons_of_ne (by omega)]
      omega
    · by_cases h2 : x = (t : Int)
      · subst h2
        rw [if_pos (decide_eq_true (by omega)), if_neg (by simp), List.sum_cons, ih, List.count_cons_self]
        push_cast
        rw [Int.mul_add, Int.mul_one]
        omega
      · rw [if_neg (by simp; omega), if_neg (by simp; omega), ih, List.count_cons_of_ne (by omega)]
theorem tA_le (l : List Int) (t : Nat) : tA l t ≤ l.length := List.length_filter_le _ _
theorem tX_bounds (l : List Int) (hb : ∀ x ∈ l, 0 ≤ x ∧ x ≤ 255) (t : Nat) : 0 ≤ tX l t ∧ tX l t ≤ 255 * (tA l t : Int) ∧ 0 ≤ l.sum - tX l t ∧ l.sum - tX l t ≤ 255 * ((l.length : Int) - (tA l t : Int)) := by
  unfold tX tA
  induction l with
  | nil => simp
  | cons x r ih =>
    have h := ih (fun y hy => hb y (List.mem_cons_of_mem _ hy))
    have hx := hb x (List.mem_cons_self ..)
    rw [List.filter_cons]
    by_cases h1 : x < (t : Int)
    · rw [if_pos (decide_eq_true h1), List.sum_cons, List.sum_cons, List.length_cons, List.length_cons]
      push_cast
      omega
    · rw [if_neg (by simpa using h1), List.sum_cons, List.length_cons]
      push_cast
      omega
/-- The gap of a threshold. -/
def tG (l : List Int) (t : Nat) : Int := (tA l t : Int) * (l.sum - tX l t) - ((l.length : Int) - (tA l t : Int)) * tX l t
/-- The product of both parts' sizes. -/
def tP (l : List Int) (t : Nat) : Int := (tA l t : Int) * ((l.length : Int) - (tA l t : Int))
theorem prod_half {a b : Nat} (h : a + b ≤ 256) : a * b ≤ 16384 := by
  have key : ∀ u v : Nat, u + v ≤ 256 → u ≤ 128 → u * v ≤ 16384 := by
    intro u v h1 h2
    obtain ⟨d, hd⟩ : ∃ d, u + d = 128 := ⟨128 - u, by omega⟩
    have h3 : u * v ≤ u * (128 + d) := Nat.mul_le_mul_left _ (by omega)
    have h4 : (u + d) * (u + d) = 128 * 128 := by rw [hd]
    have h5 : u * (128 + d) = u * u + 2 * (u * d) := by
      rw [← hd, Nat.mul_add, Nat.mul_add]
      omega
    rw [Nat.mul_add, Nat.add_mul, Nat.add_mul, Nat.mul_comm d u] at h4
    omega
  by_cases h1 : a ≤ 128
  · exact key a b h h1
  · rw [Nat.mul_comm]
    exact key b a (by omega) (by omega)
theorem tP_bounds (l : List Int) (hl : l.length ≤ 256) (t : Nat) : 0 ≤ tP l t ∧ tP l t ≤ 16384 := by
  have h1 := tA_le l t
  obtain ⟨b, hb⟩ : ∃ b, tA l t + b = l.length := ⟨l.length - tA l t, by omega⟩
  have h2 := prod_half (a := tA l t) (b := b) (by omega)
  unfold tP
  rw [show (l.length : Int) - (tA l t : Int) = (b : Int) by omega, ← Int.natCast_mul]
  omega
theorem tP_zero (l : List Int) (t : Nat) : tP l t = 0 ↔ tA l t = 0 ∨ tA l t = l.length := by
  unfold tP
  rw [Int.mul_eq_zero]
  have := tA_le l t
  omega
theorem tG_parts (l : List Int) (hb : ∀ x ∈ l, 0 ≤ x ∧ x ≤ 255) (hl : l.length ≤ 256) (t : Nat) : (0 ≤ (tA l t : Int) * (l.sum - tX l t) ∧ (tA l t : Int) * (l.sum - tX l t) ≤ 4177920) ∧ (0 ≤ ((l.length : Int) - (tA l t : Int)) * tX l t ∧ ((l.length : Int) - (tA l t : Int)) * tX l t ≤ 4177920) := by
  obtain ⟨h1, h2, h3, h4⟩ := tX_bounds l hb t
  have h5 := tA_le l t
  have h6 := tP_bounds l hl t
  unfold tP at h6
  have e1 : (tA l t : Int) * (l.sum - tX l t) ≤ (tA l t : Int) * (255 * ((l.length : Int) - (tA l t : Int))) := Int.mul_le_mul_of_nonneg_left h4 (by omega)
  have e2 : ((l.length : Int) - (tA l t : Int)) * tX l t ≤ ((l.length : Int) - (tA l t : Int)) * (255 * (tA l t : Int)) := Int.mul_le_mul_of_nonneg_left h2 (by omega)
  rw [Int.mul_left_comm] at e1 e2
  rw [Int.mul_comm ((l.length : Int) - (tA l t : Int)) (tA l t : Int)] at e2
  refine ⟨⟨Int.mul_nonneg (by omega) h3, by omega⟩, Int.mul_nonneg (by omega) h1, by omega⟩
theorem tG_bounds (l : List Int) (hb : ∀ x ∈ l, 0 ≤ x ∧ x ≤ 255) (hl : l.length ≤ 256) (t : Nat) : -4177920 ≤ tG l t ∧ tG l t ≤ 4177920 := by
  have := tG_parts l hb hl t
  unfold tG
  omega
theorem sq_bounds {g : Int} (h : -4177920 ≤ g ∧ g ≤ 4177920) : 0 ≤ g * g ∧ g * g ≤ 17455015526400 := by
  have key : ∀ n : Nat, n ≤ 4177920 → n * n ≤ 4177920 * 4177920 := fun n hn => Nat.mul_le_mul hn hn
  have h2 := key g.natAbs (by omega)
  have h3 : g * g = ((g.natAbs * g.natAbs : Nat) : Int) := by rw [Int.natCast_mul, Int.natAbs_mul_self']
  omega
theorem prod_bounds {u p : Int} (hu : 0 ≤ u ∧ u ≤ 17455015526400) (hp : 0 ≤ p ∧ p ≤ 16384) : 0 ≤ u * p ∧ u * p ≤ 285982974384537600 := by
  refine ⟨Int.mul_nonneg hu.1 hp.1, ?_⟩
  have h1 : u * p ≤ u * 16384 := Int.mul_le_mul_of_nonneg_left hp.2 hu.1
  omega
/-- Fractions compared by their quotients, then by their rests. -/
theorem frac_cmp {u v p q : Int} (hu : 0 ≤ u) (hv : 0 ≤ v) (hp : 0 < p) (hq : 0 < q) : (u / p > v / q ∨ (u / p = v / q ∧ u % p * q > v % q * p)) ↔ u * q > v * p := by
  have e1 : u * q = p * q * (u / p) + u % p * q := by
    conv => lhs; rw [← Int.mul_ediv_add_emod u p]
    rw [Int.add_mul, Int.mul_assoc, Int.mul_assoc, Int.mul_comm (u / p) q]
  have e2 : v * p = p * q * (v / q) + v % q * p := by
    conv => lhs; rw [← Int.mul_ediv_add_emod v q]
    rw [Int.add_mul, Int.mul_comm (q * (v / q)) p, ← Int.mul_assoc]
  have b1 : 0 ≤ u % p * q := Int.mul_nonneg (Int.emod_nonneg _ (by omega)) (by omega)
  have b2 : 0 ≤ v % q * p := Int.mul_nonneg (Int.emod_nonneg _ (by omega)) (by omega)
  have b3 : u % p * q < p * q := Int.mul_lt_mul_of_pos_right (Int.emod_lt_of_pos _ hp) hq
  have b4 : v % q * p < p * q := by rw [Int.mul_comm p q]; exact Int.mul_lt_mul_of_pos_right (Int.emod_lt_of_pos _ hq) hp
  have hpq : 0 < p * q := Int.mul_pos hp hq
  rw [e1, e2]
  generalize u / p = U
  generalize v / q = V
  generalize u % p * q = r at *
  generalize v % q * p = s at *
  generalize p * q = P at *
  rcases Int.lt_trichotomy U V with h | h | h
  · have : P * (U + 1) ≤ P * V := Int.mul_le_mul_of_nonneg_left (by omega) (by omega)
    rw [Int.mul_add, Int.mul_one] at this
    constructor <;> intro hh <;> omega
  · subst h
    constructor <;> intro hh <;> omega
  · have : P * (V + 1) ≤ P * U := Int.mul_le_mul_of_nonneg_left (by omega) (by omega)
    rw [Int.mul_add, Int.mul_one] at this
    constructor <;> intro hh
    · omega
    · exact Or.inl h
def tUp (l : List Int) (s : Nat) : Int := if s = 0 then -1 else tG l s * tG l s
def tDn (l : List Int) (s : Nat) : Int := if s = 0 then 1 else tP l s
/-- The best threshold up to one. -/
def thrTo (l : List Int) : Nat → Nat
  | 0 => 0
  | t + 1 => if tP l (t + 1) = 0 then thrTo l t else if tG l (t + 1) * tG l (t + 1) * tDn l (thrTo l t) > tUp l (thrTo l t) * tP l (t + 1) then t + 1 else thrTo l t
theorem thrTo_le (l : List Int) (t : Nat) : thrTo l t ≤ t := by
  induction t with
  | zero => exact Nat.le_refl _
  | succ t ih =>
    unfold thrTo
    split
    · omega
    · split <;> omega
theorem thr_first (l : List Int) (hb : ∀ x ∈ l, 0 ≤ x ∧ x ≤ 255) (hl : l.length ≤ 256) (t : Nat) (h : tP l t ≠ 0) : tG l t * tG l t * tDn l 0 > tUp l 0 * tP l t := by
  have h1 := sq_bounds (tG_bounds l hb hl t)
  have h2 := tP_bounds l hl t
  simp only [tDn, tUp, if_true]
  omega
theorem thrTo_part (l : List Int) (t : Nat) (h : thrTo l t ≠ 0) : tP l (thrTo l t) ≠ 0 := by
  induction t with
  | zero => exact absurd rfl h
  | succ t ih =>
    unfold thrTo at h ⊢
    split at h
    · rw [if_pos (by assumption)]
      exact ih h
    · rename_i h1
      rw [if_neg h1]
      split at h
      · rw [if_pos (by assumption)]
        exact h1
      · rw [if_neg (by assumption)]
        exact ih h
theorem tUp_bounds (l : List Int) (hb : ∀ x ∈ l, 0 ≤ x ∧ x ≤ 255) (hl : l.length ≤ 256) (s : Nat) : -1 ≤ tUp l s ∧ tUp l s ≤ 17455015526400 := by
  have h1 := sq_bounds (tG_bounds l hb hl s)
  unfold tUp
  split <;> omega
theorem tDn_bounds (l : List Int) (hl : l.length ≤ 256) (s : Nat) : 0 ≤ tDn l s ∧ tDn l s ≤ 16384 := by
  have h1 := tP_bounds l hl s
  unfold tDn
  split <;> omega
theorem wrap_up {u A B : Int} (hu : -1 ≤ u ∧ u ≤ 17455015526400) (hA : 0 ≤ A ∧ A ≤ 256) (hB : 0 ≤ B) (hP : A * B ≤ 16384) : wrap64 (wrap64 (u * A) * B) = u * (A * B) := by
  have h1 : u * A ≤ 17455015526400 * A := Int.mul_le_mul_of_nonneg_right hu.2 hA.1
  have h2 : (-1) * A ≤ u * A := Int.mul_le_mul_of_nonneg_right hu.1 hA.1
  have h0 : 0 ≤ A * B := Int.mul_nonneg hA.1 hB
  have h3 : u * (A * B) ≤ 17455015526400 * (A * B) := Int.mul_le_mul_of_nonneg_right hu.2 h0
  have h4 : (-1) * (A * B) ≤ u * (A * B) := Int.mul_le_mul_of_nonneg_right hu.1 h0
  rw [wrapIn (x := u * A) (by omega) (by omega), Int.mul_assoc, wrapIn (by omega) (by omega)]
theorem tA_wrap (l : List Int) (hl : l.length ≤ 256) (n : Nat) (hn : n < 256) : wrap64 ((tA l n : Int) + rd (histL l) (n : Int)) = (tA l (n + 1) : Int) := by
  have h1 := tA_step l n
  have h2 := tA_le l (n + 1)
  rw [histL_rd l n hn, wrapIn (by omega) (by omega)]
  omega
theorem tX_wrap (l : List Int) (hb : ∀ x ∈ l, 0 ≤ x ∧ x ≤ 255) (hl : l.length ≤ 256) (n : Nat) (hn : n < 256) : wrap64 (tX l n + wrap64 ((n : Int) * rd (histL l) (n : Int))) = tX l (n + 1) := by
  have h1 := tX_step l n
  have h2 := tX_bounds l hb n
  have h3 := tX_bounds l hb (n + 1)
  have h4 := tA_le l (n + 1)
  have h5 := tA_le l n
  rw [histL_rd l n hn]
  rw [wrapIn (x := (n : Int) * ((l.count (n : Int) : Nat) : Int)) (by omega) (by omega), wrapIn (by omega) (by omega)]
  omega
theorem spec_partsOf.ev_l1 (l : List Int) (hb : ∀ x ∈ l, 0 ≤ x ∧ x ≤ 255) (hl : l.length ≤ 256) (t : Nat) (d : Nat) : ∀ n, n ≤ 256 → 256 - n = d →
    Ev (fun k => spec_partsOf.l1 k (histL l) (tA l t : Int) ((tA l n : Int) - (tA l t : Int)) (n : Int)) ((tA l t : Int), (l.length : Int) - (tA l t : Int)) := by
  induction d with
  | zero =>
    intro n hn hd
    obtain rfl : n = 256 := by omega
    rw [tA_all l hb]
    exact Ev.step (fun k => by simp only [spec_partsOf.l1]; rfl) (evNeg (by omega) (evRet rfl))
  | succ d ih =>
    intro n hn hd
    have e : wrap64 ((tA l n : Int) - (tA l t : Int) + rd (histL l) (n : Int)) = (tA l (n + 1) : Int) - (tA l t : Int) := by
      have h1 := tA_step l n
      have h2 := tA_le l (n + 1)
      have h3 := tA_le l t
      rw [histL_rd l n (by omega), wrapIn (by omega) (by omega)]
      omega
    refine Ev.step (fun k => by simp only [spec_partsOf.l1, e, wrapSucc n (by omega)]; rfl) ?_
    exact evPos (by clear e; omega) (evPos (by clear e; omega) (evPos (by rw [histL_length]; clear e; omega) (ih (n + 1) (by clear e; omega) (by clear e; omega))))
theorem spec_partsOf.ev_l0 (l : List Int) (hb : ∀ x ∈ l, 0 ≤ x ∧ x ≤ 255) (hl : l.length ≤ 256) (t : Nat) (ht : t ≤ 256) (d : Nat) : ∀ n, n ≤ t → t - n = d →
    Ev (fun k => spec_partsOf.l0 k (histL l) (t : Int) (tA l n : Int) (n : Int)) ((tA l t : Int), (l.length : Int) - (tA l t : Int)) := by
  induction d with
  | zero =>
    intro n hn hd
    obtain rfl : n = t := by omega
    have h1 := tA_le l n
    have e : wrap64 (-(tA l n : Int)) = (tA l 0 : Int) - (tA l n : Int) := by
      rw [tA_zero l hb, wrapIn (by omega) (by omega)]
      omega
    refine Ev.step (fun k => by simp only [spec_partsOf.l0, e]; rfl) (evNeg (by clear e; omega) ?_)
    exact spec_partsOf.ev_l1 l hb hl n 256 0 (by omega) (by omega)
  | succ d ih =>
    intro n hn hd
    have e := tA_wrap l hl n (by omega)
    refine Ev.step (fun k => by simp only [spec_partsOf.l0, e, wrapSucc n (by omega)]; rfl) ?_
    exact evPos (by clear e; omega) (evPos (by clear e; omega) (evPos (by rw [histL_length]; clear e; omega) (ih (n + 1) (by clear e; omega) (by clear e; omega))))
theorem spec_partsOf.ev (l : List Int) (hb : ∀ x ∈ l, 0 ≤ x ∧ x ≤ 255) (hl : l.length ≤ 256) (t : Nat) (ht : t ≤ 256) : Ev (fun k => spec_partsOf.f k (histL l) (t : Int)) ((tA l t : Int), (l.length : Int) - (tA l t : Int)) := by
  have h := spec_partsOf.ev_l0 l hb hl t ht t 0 (by omega) (by omega)
  rw [tA_zero l hb] at h
  unfold spec_partsOf.f
  exact h
theorem spec_between.ev_two (l : List Int) (hb : ∀ x ∈ l, 0 ≤ x ∧ x ≤ 255) (hl : l.length ≤ 256) (t : Nat) (ht : t ≤ 256) (d : Nat) : ∀ n, t ≤ n → n ≤ 256 → 256 - n = d →
    Ev (fun k => spec_between.l0 k (histL l) (t : Int) (tA l t : Int) ((tA l n : Int) - (tA l t : Int)) (tX l t) (tX l n - tX l t) (n : Int)) (tG l t) := by
  induction d with
  | zero =>
    intro n h0 hn hd
    obtain rfl : n = 256 := by omega
    have hp := tG_parts l hb hl t
    rw [tA_all l hb, tX_all l hb]
    refine Ev.step (fun k => by simp only [spec_between.l0]; rfl) (evNeg (by omega) (evRet ?_))
    rw [wrapIn (x := (tA l t : Int) * (l.sum - tX l t)) (by omega) (by omega), wrapIn (x := ((l.length : Int) - (tA l t : Int)) * tX l t) (by omega) (by omega), wrapIn (by omega) (by omega)]
    rfl
  | succ d ih =>
    intro n h0 hn hd
    have e : wrap64 ((tA l n : Int) - (tA l t : Int) + rd (histL l) (n : Int)) = (tA l (n + 1) : Int) - (tA l t : Int) := by
      have h1 := tA_step l n
      have h2 := tA_le l (n + 1)
      have h3 := tA_le l t
      rw [histL_rd l n (by omega), wrapIn (by omega) (by omega)]
      omega
    have e2 : wrap64 (tX l n - tX l t + wrap64 ((n : Int) * rd (histL l) (n : Int))) = tX l (n + 1) - tX l t := by
      have h1 := tX_step l n
      have h2 := tX_bounds l hb n
      have h3 := tX_bounds l hb (n + 1)
      have h4 := tX_bounds l hb t
      have h5 := tA_le l (n + 1)
      have h6 := tA_le l n
      have h7 := tA_le l t
      rw [histL_rd l n (by omega), wrapIn (x := (n : Int) * ((l.count (n : Int) : Nat) : Int)) (by omega) (by omega), wrapIn (by omega) (by omega)]
      omega
    have hn' := ih (n + 1) (by omega) (by omega) (by omega)
    refine Ev.step (fun k => by simp only [spec_between.l0, e, e2, wrapSucc n (by omega)]; rfl) ?_
    clear e e2
    exact evPos (by omega) (evNeg (by omega) (evPos (by omega) (evPos (by rw [histL_length]; omega) hn')))
theorem spec_between.ev_one (l : List Int) (hb : ∀ x ∈ l, 0 ≤ x ∧ x ≤ 255) (hl : l.length ≤ 256) (t : Nat) (ht : t ≤ 256) (d : Nat) : ∀ n, n ≤ t → t - n = d →
    Ev (fun k => spec_between.l0 k (histL l) (t : Int) (tA l n : Int) 0 (tX l n) 0 (n : Int)) (tG l t) := by
  induction d with
  | zero =>
    intro n hn hd
    obtain rfl : n = t := by omega
    have h := spec_between.ev_two l hb hl n ht (256 - n) n (Nat.le_refl _) ht rfl
    rw [Int.sub_self, Int.sub_self] at h
    exact h
  | succ d ih =>
    intro n hn hd
    have e := tA_wrap l hl n (by omega)
    have e2 := tX_wrap l hb hl n (by omega)
    have hn' := ih (n + 1) (by omega) (by omega)
    refine Ev.step (fun k => by simp only [spec_between.l0, e, e2, wrapSucc n (by omega)]; rfl) ?_
    clear e e2
    exact evPos (by omega) (evPos (by omega) (evPos (by omega) (evPos (by rw [histL_length]; omega) hn')))
theorem spec_between.ev (l : List Int) (hb : ∀ x ∈ l, 0 ≤ x ∧ x ≤ 255) (hl : l.length ≤ 256) (t : Nat) (ht : t ≤ 256) : Ev (fun k => spec_between.f k (histL l) (t : Int)) (tG l t) := by
  have h := spec_between.ev_one l hb hl t ht t 0 (by omega) (by omega)
  rw [tA_zero l hb, tX_zero l hb] at h
  unfold spec_between.f
  exact h
theorem frac_wrap {u p : Int} (hu : 0 ≤ u ∧ u ≤ 17455015526400) (hp : 0 < p ∧ p ≤ 16384) : wrap64 (Int.tdiv u p) = u / p := by
  have h1 : u / p ≤ u := Int.ediv_le_self _ hu.1
  have h2 : 0 ≤ u / p := Int.ediv_nonneg hu.1 (by omega)
  rw [Int.tdiv_eq_ediv_of_nonneg hu.1, wrapIn (by omega) (by omega)]
theorem rest_wrap {u p q : Int} (hu : 0 ≤ u) (hp : 0 < p ∧ p ≤ 16384) (hq : 0 < q ∧ q ≤ 16384) : wrap64 (Int.tmod u p * q) = u % p * q := by
  have h1 := Int.emod_nonneg u (show p ≠ 0 by omega)
  have h2 := Int.emod_lt_of_pos u hp.1
  have h3 : 0 ≤ u % p * q := Int.mul_nonneg h1 (by omega)
  have h4 : u % p * q ≤ 16384 * q := Int.mul_le_mul_of_nonneg_right (by omega) (by omega)
  rw [Int.tmod_eq_emod_of_nonneg hu, wrapIn (by omega) (by omega)]
theorem spec_ThresholdOf.ev_l0 (l : List Int) (hb : ∀ x ∈ l, 0 ≤ x ∧ x ≤ 255) (hl : l.length ≤ 256) (d : Nat) : ∀ m, m ≤ 255 → 255 - m = d →
    Ev (fun k => spec_ThresholdOf.l0 k (thrTo l m : Int) (histL l) ((m + 1 : Nat) : Int)) (thrTo l 255 : Int) := by
  induction d with
  | zero =>
    intro m hm hd
    obtain rfl : m = 255 := by omega
    exact Ev.step (fun k => by simp only [spec_ThresholdOf.l0]; rfl) (evNeg (by omega) (evRet rfl))
  | succ d ih =>
    intro m hm hd
    have hn := ih (m + 1) (by omega) (by omega)
    have hP := spec_partsOf.ev l hb hl (m + 1) (by omega)
    have hs := thrTo_le l m
    have hP2 := spec_partsOf.ev l hb hl (thrTo l m) (by omega)
    have hB1 := spec_between.ev l hb hl (m + 1) (by omega)
    have hB2 := spec_between.ev l hb hl (thrTo l m) (by omega)
    have hz := tP_zero l (m + 1)
    have hle := tA_le l (m + 1)
    have hw := wrapSucc (m + 1) (by omega)
    refine Ev.step (fun k => by simp only [spec_ThresholdOf.l0]; rfl) (evPos (by omega) (evBind hP ?_))
    by_cases h0 : tP l (m + 1) = 0
    · have e : thrTo l (m + 1) = thrTo l m := by conv => lhs; unfold thrTo; rw [if_pos h0]
      rw [e, ← hw] at hn
      by_cases h1 : tA l (m + 1) = 0
      · exact evPos (by omega) (Ev.step (fun k => by simp only [spec_ThresholdOf.j2]; rfl) (evPos (by trivial) hn))
      · refine evNeg (by omega) ?_
        have e2 : (((l.length : Int) - (tA l (m + 1) : Int)) == 0) = true := by rw [beq_iff_eq]; omega
        simp only [e2]
        exact Ev.step (fun k => by simp only [spec_ThresholdOf.j2]; rfl) (evPos (by trivial) hn)
    · have h1 : ¬ (tA l (m + 1) = 0 ∨ tA l (m + 1) = l.length) := fun h => h0 (hz.2 h)
      have e2 : (((l.length : Int) - (tA l (m + 1) : Int)) == 0) = false := by rw [beq_eq_false_iff_ne]; omega
      have b1 := tP_bounds l hl (m + 1)
      have g1 := sq_bounds (tG_bounds l hb hl (m + 1))
      have w1 : wrap64 ((tA l (m + 1) : Int) * ((l.length : Int) - (tA l (m + 1) : Int))) = tP l (m + 1) := by
        unfold tP at b1 ⊢
        rw [wrapIn (by omega) (by omega)]
      have w2 : wrap64 (tG l (m + 1) * tG l (m + 1)) = tG l (m + 1) * tG l (m + 1) := wrapIn (by omega) (by omega)
      have b3 := tP_bounds l hl (thrTo l m)
      have g3 := sq_bounds (tG_bounds l hb hl (thrTo l m))
      have w3 : wrap64 ((tA l (thrTo l m) : Int) * ((l.length : Int) - (tA l (thrTo l m) : Int))) = tP l (thrTo l m) := by
        unfold tP at b3 ⊢
        rw [wrapIn (by omega) (by omega)]
      have w4 : wrap64 (tG l (thrTo l m) * tG l (thrTo l m)) = tG l (thrTo l m) * tG l (thrTo l m) := wrapIn (by omega) (by omega)
      refine evNeg (by omega) ?_
      simp only [e2]
      have hsel : thrTo l (m + 1) = if tG l (m + 1) * tG l (m + 1) * tDn l (thrTo l m) > tUp l (thrTo l m) * tP l (m + 1) then m + 1 else thrTo l m := by conv => lhs; unfold thrTo; rw [if_neg h0]
      refine Ev.step (fun k => by simp only [spec_ThresholdOf.j2]; rfl) (evNeg (by simp) (evBind hP2 (evBind hB1 (evBind hB2 ?_))))
      simp only [w1, w2, w3, w4]
      rw [← hw] at hn
      clear hw w1 w2 w3 w4
      by_cases hs0 : thrTo l m = 0
      · have hc := thr_first l hb hl (m + 1) h0
        rw [← hs0] at hc
        rw [if_pos hc] at hsel
        rw [hsel] at hn
        exact evPos (by omega) hn
      · have h3 := thrTo_part l m hs0
        have hu : tUp l (thrTo l m) = tG l (thrTo l m) * tG l (thrTo l m) := by unfold tUp; rw [if_neg hs0]
        have hdn : tDn l (thrTo l m) = tP l (thrTo l m) := by unfold tDn; rw [if_neg hs0]
        rw [hu, hdn] at hsel
        have hf := frac_cmp g1.1 g3.1 (show 0 < tP l (m + 1) by omega) (show 0 < tP l (thrTo l m) by omega)
        have f1 := frac_wrap g1 (show 0 < tP l (m + 1) ∧ _ from ⟨by omega, b1.2⟩)
        have f2 := frac_wrap g3 (show 0 < tP l (thrTo l m) ∧ _ from ⟨by omega, b3.2⟩)
        have f3 := rest_wrap g1.1 (show 0 < tP l (m + 1) ∧ _ from ⟨by omega, b1.2⟩) (show 0 < tP l (thrTo l m) ∧ _ from ⟨by omega, b3.2⟩)
        have f4 := rest_wrap g3.1 (show 0 < tP l (thrTo l m) ∧ _ from ⟨by omega, b3.2⟩) (show 0 < tP l (m + 1) ∧ _ from ⟨by omega, b1.2⟩)
        refine evNeg (by omega) (evNeg h0 (evNeg h3 ?_))
        simp only [f1, f2, f3, f4]
        clear f1 f2 f3 f4
        by_cases c1 : tG l (m + 1) * tG l (m + 1) / tP l (m + 1) > tG l (thrTo l m) * tG l (thrTo l m) / tP l (thrTo l m)
        · rw [if_pos (hf.1 (Or.inl c1))] at hsel
          rw [hsel] at hn
          exact evPos c1 hn
        · refine evNeg c1 ?_
          by_cases c2 : tG l (m + 1) * tG l (m + 1) / tP l (m + 1) = tG l (thrTo l m) * tG l (thrTo l m) / tP l (thrTo l m)
          · refine evPos c2 ?_
            by_cases c3 : tG l (m + 1) * tG l (m + 1) % tP l (m + 1) * tP l (thrTo l m) > tG l (thrTo l m) * tG l (thrTo l m) % tP l (thrTo l m) * tP l (m + 1)
            · rw [if_pos (hf.1 (Or.inr ⟨c2, c3⟩))] at hsel
              rw [hsel] at hn
              exact evPos c3 hn
            · rw [if_neg (fun h => (hf.2 h).elim c1 (fun h' => c3 h'.2))] at hsel
              rw [hsel] at hn
              exact evNeg c3 hn
          · rw [if_neg (fun h => (hf.2 h).elim c1 (fun h' => c2 h'.1))] at hsel
            rw [hsel] at hn
            exact evNeg c2 hn
theorem gray_len {a b c : Int} {l : List Int} (h : GrayOk a b c l) : l.length ≤ 256 := by
  obtain ⟨W, H, p, rfl, rfl, rfl, hlen, b1, b2, b3, b4, b5, b6⟩ := h.1.nats
  have hp : p = 1 := by have := h.2; omega
  subst hp
  have : W * H ≤ 16 * 16 := Nat.mul_le_mul b4 b5
  omega
theorem spec_ThresholdOf.ev (a b c : Int) (l : List Int) (hl : l.length ≤ 9223372036854775806) : Ev (fun k => spec_ThresholdOf.f k a b c l) (if GrayOk a b c l then (thrTo l 255 : Int) else -1) := by
  unfold spec_ThresholdOf.f
  refine evBind (spec_validImage.ev a b c l hl) ?_
  by_cases h : ImgOk a b c l
  · refine evPos (decide_eq_true h) ?_
    by_cases hc : c = 1
    · have hg : GrayOk a b c l := ⟨h, hc⟩
      have hc2 : (c != 1) = false := by rw [hc]; rfl
      rw [if_pos hg, hc2]
      refine Ev.step (fun k => by simp only [spec_ThresholdOf.j0]; rfl) (evNeg (by simp) (evBind (spec_histogram.ev l h.2.2.2.2 (by have := gray_len hg; omega)) ?_))
      exact spec_ThresholdOf.ev_l0 l h.2.2.2.2 (gray_len hg) 255 0 (by omega) (by omega)
    · have hc2 : (c != 1) = true := by rw [bne_iff_ne]; exact hc
      rw [if_neg (fun hg : GrayOk a b c l => hc hg.2), hc2]
      exact Ev.step (fun k => by simp only [spec_ThresholdOf.j0]; rfl) (evPos (by trivial) (evRet rfl))
  · rw [if_neg (fun hg : GrayOk a b c l => h hg.1)]
    exact evNeg (by rw [decide_eq_false h]; simp) (Ev.step (fun k => by simp only [spec_ThresholdOf.j0]; rfl) (evPos (by trivial) (evRet rfl)))
theorem impl_ThresholdOf.ev_l1 (a b c : Int) (l : List Int) (hb : ∀ x ∈ l, 0 ≤ x ∧ x ≤ 255) (hl : l.length ≤ 256) (d : Nat) : ∀ m, m ≤ 255 → 255 - m = d →
    Ev (fun k => impl_ThresholdOf.l1 k (histL l) l.sum (thrTo l m : Int) (tUp l (thrTo l m)) (tDn l (thrTo l m)) (tA l m : Int) (tX l m) ((m + 1 : Nat) : Int) a b c l) (thrTo l 255 : Int) := by
  induction d with
  | zero =>
    intro m hm hd
    obtain rfl : m = 255 := by omega
    exact Ev.step (fun k => by simp only [impl_ThresholdOf.l1]; rfl) (evNeg (by omega) (evRet rfl))
  | succ d ih =>
    intro m hm hd
    have hn := ih (m + 1) (by omega) (by omega)
    have hz := tP_zero l (m + 1)
    have hle := tA_le l (m + 1)
    have hX := tX_bounds l hb (m + 1)
    have hw := wrapSucc (m + 1) (by omega)
    have w0 : wrap64 (((m + 1 : Nat) : Int) - 1) = (m : Int) := by rw [wrapIn (by omega) (by omega)]; omega
    have w1 := tA_wrap l hl m (by omega)
    have w2 := tX_wrap l hb hl m (by omega)
    have w3 : wrap64 ((l.length : Int) - (tA l (m + 1) : Int)) = (l.length : Int) - (tA l (m + 1) : Int) := wrapIn (by omega) (by omega)
    have w4 : wrap64 (l.sum - tX l (m + 1)) = l.sum - tX l (m + 1) := wrapIn (by omega) (by omega)
    refine Ev.step (fun k => by simp only [impl_ThresholdOf.l1, w0, w1, w2, w3, w4]; rfl) ?_
    rw [← hw] at hn
    clear hw w0 w1 w2 w3 w4
    refine evPos (by omega) (evPos (by omega) (evPos (by rw [histL_length]; omega) ?_))
    by_cases h0 : tP l (m + 1) = 0
    · have e : thrTo l (m + 1) = thrTo l m := by conv => lhs; unfold thrTo; rw [if_pos h0]
      rw [e] at hn
      by_cases h1 : tA l (m + 1) = 0
      · exact evPos (by omega) (Ev.step (fun k => by simp only [impl_ThresholdOf.j3]; rfl) (evPos (by trivial) hn))
      · refine evNeg (by omega) ?_
        have e2 : (((l.length : Int) - (tA l (m + 1) : Int)) == 0) = true := by rw [beq_iff_eq]; omega
        simp only [e2]
        exact Ev.step (fun k => by simp only [impl_ThresholdOf.j3]; rfl) (evPos (by trivial) hn)
    · have h1 : ¬ (tA l (m + 1) = 0 ∨ tA l (m + 1) = l.length) := fun h => h0 (hz.2 h)
      have e2 : (((l.length : Int) - (tA l (m + 1) : Int)) == 0) = false := by rw [beq_eq_false_iff_ne]; omega
      have b1 := tP_bounds l hl (m + 1)
      have g0 := tG_bounds l hb hl (m + 1)
      have g1 := sq_bounds g0
      have gp := tG_parts l hb hl (m + 1)
      have b3 := tDn_bounds l hl (thrTo l m)
      have b4 := tUp_bounds l hb hl (thrTo l m)
      have b5 := prod_bounds g1 b3
      have v1 : wrap64 ((tA l (m + 1) : Int) * (l.sum - tX l (m + 1))) = (tA l (m + 1) : Int) * (l.sum - tX l (m + 1)) := wrapIn (by omega) (by omega)
      have v2 : wrap64 (((l.length : Int) - (tA l (m + 1) : Int)) * tX l (m + 1)) = ((l.length : Int) - (tA l (m + 1) : Int)) * tX l (m + 1) := wrapIn (by omega) (by omega)
      have v3 : wrap64 ((tA l (m + 1) : Int) * (l.sum - tX l (m + 1)) - ((l.length : Int) - (tA l (m + 1) : Int)) * tX l (m + 1)) = tG l (m + 1) := by unfold tG; exact wrapIn (by omega) (by omega)
      have v4 : wrap64 (tG l (m + 1) * tG l (m + 1)) = tG l (m + 1) * tG l (m + 1) := wrapIn (by omega) (by omega)
      have v5 : wrap64 (tG l (m + 1) * tG l (m + 1) * tDn l (thrTo l m)) = tG l (m + 1) * tG l (m + 1) * tDn l (thrTo l m) := wrapIn (by omega) (by omega)
      have v6 : wrap64 (wrap64 (tUp l (thrTo l m) * (tA l (m + 1) : Int)) * ((l.length : Int) - (tA l (m + 1) : Int))) = tUp l (thrTo l m) * tP l (m + 1) := wrap_up b4 ⟨by omega, by omega⟩ (by omega) b1.2
      have v7 : wrap64 ((tA l (m + 1) : Int) * ((l.length : Int) - (tA l (m + 1) : Int))) = tP l (m + 1) := by
        unfold tP at b1 ⊢
        exact wrapIn (by omega) (by omega)
      have hsel : thrTo l (m + 1) = if tG l (m + 1) * tG l (m + 1) * tDn l (thrTo l m) > tUp l (thrTo l m) * tP l (m + 1) then m + 1 else thrTo l m := by conv => lhs; unfold thrTo; rw [if_neg h0]
      refine evNeg (by clear v1 v2 v3 v4 v5 v6 v7; omega) ?_
      simp only [e2]
      refine Ev.step (fun k => by simp only [impl_ThresholdOf.j3, v1, v2, v3, v4, v5, v6, v7]; rfl) (evNeg (by simp) ?_)
      clear v1 v2 v3 v4 v5 v6 v7
      by_cases hc : tG l (m + 1) * tG l (m + 1) * tDn l (thrTo l m) > tUp l (thrTo l m) * tP l (m + 1)
      · rw [if_pos hc] at hsel
        have hu : tUp l (m + 1) = tG l (m + 1) * tG l (m + 1) := by unfold tUp; rw [if_neg (by omega)]
        have hdn : tDn l (m + 1) = tP l (m + 1) := by unfold tDn; rw [if_neg (by omega)]
        rw [hsel, hu, hdn] at hn
        exact evPos hc hn
      · rw [if_neg hc] at hsel
        rw [hsel] at hn
        exact evNeg hc hn
theorem sum_part (l : List Int) (hb : ∀ x ∈ l, 0 ≤ x ∧ x ≤ 255) : 0 ≤ l.sum ∧ l.sum ≤ 255 * (l.length : Int) := by
  have h := tX_bounds l hb 0
  rw [tX_zero l hb, tA_zero l hb] at h
  omega
theorem impl_ThresholdOf.ev_l0 (a b c : Int) (l : List Int) (hb : ∀ x ∈ l, 0 ≤ x ∧ x ≤ 255) (hl : l.length ≤ 256) (d : Nat) : ∀ i, i ≤ l.length → l.length - i = d →
    Ev (fun k => impl_ThresholdOf.l0 k (histL l) (l.take i).sum l (l.length : Int) (i : Int) a b c l) (thrTo l 255 : Int) := by
  induction d with
  | zero =>
    intro i hi hd
    rw [List.take_of_length_le (by omega)]
    refine Ev.step (fun k => by simp only [impl_ThresholdOf.l0]; rfl) (evNeg (by omega) ?_)
    have h := impl_ThresholdOf.ev_l1 a b c l hb hl 255 0 (by omega) (by omega)
    rw [tA_zero l hb, tX_zero l hb] at h
    exact h
  | succ d ih =>
    intro i hi hd
    have hlt : i < l.length := by omega
    have hn := ih (i + 1) (by omega) (by omega)
    have hs : (l.take (i + 1)).sum = (l.take i).sum + l[i] := by
      rw [List.take_succ_eq_append_getElem hlt, List.sum_append]
      simp
    have h1 := sum_part (l.take (i + 1)) (fun x hx => hb x (List.mem_of_mem_take hx))
    have h2 := List.length_take_le (i + 1) l
    have h3 : (l.take (i + 1)).length ≤ 256 := by rw [List.length_take]; omega
    have e : wrap64 ((l.take i).sum + l[i]) = (l.take (i + 1)).sum := by rw [← hs]; exact wrapIn (by omega) (by omega)
    refine Ev.step (fun k => by simp only [impl_ThresholdOf.l0, rdN l i hlt, e, wrapSucc i (by omega)]; rfl) ?_
    clear e
    exact evPos (by omega) (evPos (by omega) (evPos (by omega) hn))
theorem impl_ThresholdOf.ev (a b c : Int) (l : List Int) : Ev (fun k => impl_ThresholdOf.f k a b c l) (if GrayOk a b c l then (thrTo l 255 : Int) else -1) := by
  unfold impl_ThresholdOf.f
  refine evFix (impl_isImage.eq a b c l) ?_
  by_cases h : ImgOk a b c l
  · refine evPos (decide_eq_true h) ?_
    by_cases hc : c = 1
    · have hg : GrayOk a b c l := ⟨h, hc⟩
      have hc2 : (c != 1) = false := by rw [hc]; rfl
      rw [if_pos hg, hc2]
      refine Ev.step (fun k => by simp only [impl_ThresholdOf.j0]; rfl) (evNeg (by simp) (evBind (impl_histogram.ev a b c l h.2.2.2.2 (by have := gray_len hg; omega)) ?_))
      exact impl_ThresholdOf.ev_l0 a b c l h.2.2.2.2 (gray_len hg) l.length 0 (by omega) (by omega)
    · have hc2 : (c != 1) = true := by rw [bne_iff_ne]; exact hc
      rw [if_neg (fun hg : GrayOk a b c l => hc hg.2), hc2]
      exact Ev.step (fun k => by simp only [impl_ThresholdOf.j0]; rfl) (evPos (by trivial) (evRet rfl))
  · rw [if_neg (fun hg : GrayOk a b c l => h hg.1)]
    exact evNeg (by rw [decide_eq_false h]; simp) (Ev.step (fun k => by simp only [impl_ThresholdOf.j0]; rfl) (evPos (by trivial) (evRet rfl)))

theorem thr_two (l : List Int) (hb : ∀ x ∈ l, 0 ≤ x ∧ x ≤ 255) (hl : l.length ≤ 256) (lo hi : Nat) (hlt : lo < hi) (h1 : (lo : Int) ∈ l) (h2 : (hi : Int) ∈ l) (hall : ∀ x ∈ l, x = (lo : Int) ∨ x = (hi : Int)) (t : Nat) (ht : lo < t) : thrTo l t = lo + 1 := by
  have hlow : ∀ s, s ≤ lo → tP l s = 0 := fun s hs => (tP_zero l s).2 (Or.inl (by
    unfold tA
    rw [List.filter_eq_nil_iff.2 fun x hx => by have := hall x hx; simp; omega]
    rfl))
  have hhigh : ∀ s, hi < s → tP l s = 0 := fun s hs => (tP_zero l s).2 (Or.inr (by
    unfold tA
    rw [List.filter_eq_self.2 fun x hx => by have := hall x hx; simp; omega]))
  have hfil : ∀ s, lo < s → s ≤ hi → (l.filter fun x => decide (x < (s : Int))) = l.filter fun x => decide (x < ((lo + 1 : Nat) : Int)) := fun s a b => List.filter_congr fun x hx => by
    rw [Bool.eq_iff_iff, decide_eq_true_eq, decide_eq_true_eq]
    have := hall x hx
    omega
  have hA : ∀ s, lo < s → s ≤ hi → tA l s = tA l (lo + 1) := fun s a b => by unfold tA; rw [hfil s a b]
  have hX : ∀ s, lo < s → s ≤ hi → tX l s = tX l (lo + 1) := fun s a b => by unfold tX; rw [hfil s a b]
  have hG : ∀ s, lo < s → s ≤ hi → tG l s = tG l (lo + 1) := fun s a b => by unfold tG; rw [hA s a b, hX s a b]
  have hP : ∀ s, lo < s → s ≤ hi → tP l s = tP l (lo + 1) := fun s a b => by unfold tP; rw [hA s a b]
  have hP0 : tP l (lo + 1) ≠ 0 := fun h => by
    rcases (tP_zero l (lo + 1)).1 h with h | h
    · unfold tA at h
      have h4 := List.length_eq_zero_iff.1 h
      have h5 : (lo : Int) ∈ l.filter fun x => decide (x < ((lo + 1 : Nat) : Int)) := List.mem_filter.2 ⟨h1, decide_eq_true (by omega)⟩
      rw [h4] at h5
      exact absurd h5 (by simp)
    · unfold tA at h
      have h4 := List.length_filter_eq_length_iff.1 h (hi : Int) h2
      have h5 := of_decide_eq_true h4
      omega
  have hzero : ∀ s, s ≤ lo → thrTo l s = 0 := by
    intro s
    induction s with
    | zero => intro _; rfl
    | succ s ih =>
      intro hs
      unfold thrTo
      rw [if_pos (hlow (s + 1) hs)]
      exact ih (by omega)
  induction t with
  | zero => omega
  | succ t ih =>
    by_cases e : t = lo
    · subst e
      have hf := thr_first l hb hl (t + 1) hP0
      unfold thrTo
      rw [if_neg hP0, hzero t (Nat.le_refl _), if_pos hf]
    · have h := ih (by omega)
      unfold thrTo
      rw [h]
      by_cases h3 : t + 1 ≤ hi
      · rw [hP (t + 1) (by omega) h3, if_neg hP0, hG (t + 1) (by omega) h3, if_neg]
        have hu : tUp l (lo + 1) = tG l (lo + 1) * tG l (lo + 1) := by unfold tUp; rw [if_neg (by omega)]
        have hdn : tDn l (lo + 1) = tP l (lo + 1) := by unfold tDn; rw [if_neg (by omega)]
        rw [hu, hdn]
        exact Int.lt_irrefl _
      · rw [if_pos (hhigh (t + 1) (by omega))]
theorem thr_pair (l : List Int) (hb : ∀ x ∈ l, 0 ≤ x ∧ x ≤ 255) (hl : l.length ≤ 256) (u v : Int) (hn : u ≠ v) (h1 : u ∈ l) (h2 : v ∈ l) (hall : ∀ x ∈ l, x = u ∨ x = v) : (thrTo l 255 : Int) = wrap64 (mn u v + 1) := by
  have bu := hb u h1
  have bv := hb v h2
  obtain ⟨a, rfl⟩ := Int.eq_ofNat_of_zero_le bu.1
  obtain ⟨b, rfl⟩ := Int.eq_ofNat_of_zero_le bv.1
  rcases Nat.lt_or_ge a b with h | h
  · have hm : mn (a : Int) (b : Int) = (a : Int) := by unfold mn; split <;> omega
    rw [hm, thr_two l hb hl a b h h1 h2 hall 255 (by omega), wrapSucc a (by omega)]
  · have hm : mn (a : Int) (b : Int) = (b : Int) := by unfold mn; split <;> omega
    rw [hm, thr_two l hb hl b a (by omega) h2 h1 (fun x hx => (hall x hx).symm) 255 (by omega), wrapSucc b (by omega)]
theorem FnThresholdTwo : laws_FnThresholdTwo.Pure := by
  intro code _ _ hw
  refine Ev.rounds ?_
  obtain ⟨a, b, c, l, hd, hl⟩ := spec_DrawThresholdOf.ev code hw
  have h3 := spec_ThresholdOf.ev a b c l (by omega)
  have h4 := impl_ThresholdOf.ev a b c l
  unfold laws_FnThresholdTwo.f
  refine evIf (fun _ => evRet rfl) (fun _ => evBind hd (evBind h4 (evBind h3 (evPos rfl ?_))))
  by_cases hg : GrayOk a b c l
  · rw [if_pos hg] at *
    have e : decide ((thrTo l 255 : Int) < 0) = false := decide_eq_false (by omega)
    rw [e]
    have hg2 := gray_len hg
    have hb := hg.1.2.2.2.2
    obtain ⟨hi, hc⟩ := hg
    have hi2 := hi
    obtain ⟨W, H, p, rfl, rfl, rfl, hll, b1, b2, b3, b4, b5, b6⟩ := hi2.nats
    obtain rfl : p = 1 := by omega
    have hWH : W * H = l.length := by rw [hll, Nat.mul_one]
    have hp : impl_PaletteOf.f (W : Int) (H : Int) ((1 : Nat) : Int) l = some (if (palN (pixN W 1 l) W l.length).length ≤ 16 then (palN (pixN W 1 l) W l.length, true) else ([], false)) := by
      unfold impl_PaletteOf.f
      rw [if_pos hi]
      simp only [Int.toNat_natCast, hWH]
    refine Ev.step (fun k => by simp only [laws_FnThresholdTwo.j0]; rfl) (evNeg (by simp) (evFix hp ?_))
    by_cases h16 : (palN (pixN W 1 l) W l.length).length ≤ 16
    · rw [if_pos h16]
      refine evPos rfl ?_
      by_cases h2 : (palN (pixN W 1 l) W l.length).length = 2
      · obtain ⟨u, v, hpal, hn, hu, hv, hall⟩ := pal_two W l h2
        have ht := thr_pair l hb hg2 u v hn hu hv hall
        rw [hpal]
        refine evPos rfl (evPos (by show (0 : Int) < 2; decide) (evPos (by show (0 : Int) < 1; decide) (evPos (by show (1 : Int) < 2; decide) (evPos (by show (0 : Int) < 1; decide) (evRet ?_)))))
        show ((thrTo l 255 : Int) == wrap64 (mn u v + 1)) = true
        rw [beq_iff_eq]
        exact ht
      · exact evNeg (by show ¬ ((palN (pixN W 1 l) W l.length).length : Int) = 2; omega) (evRet rfl)
    · rw [if_neg h16]
      exact evNeg (by simp) (evRet rfl)
  · rw [if_neg hg] at *
    exact Ev.step (fun k => by simp only [laws_FnThresholdTwo.j0]; rfl) (evPos (by trivial) (evBind h3 (evRet rfl)))

end Go.Proofs.Ytonolnojpejgnaa.Pure
